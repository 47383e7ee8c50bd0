-- Texts that the row SpaceInside leans on, joined by wip/tools/mkclaim.py: Wk42, Wk6, Wk20, Plain12, Plain12b, Plain12c, Plain12d, Wk22, Wk23, Wk24, Wk25, Wk26, Wk27, Plain12e, Wkslabvaultref12_Tuples, Wk29, Wkslabvaultref12_Places, Plain12f, Plain12g, PureSpaceInside
import Derived.Test.YtjbjofmcmjojlaaCSpaceInside2
section
namespace Go.Proofs.Ytjbjofmcmjojlaa.Wk
open Go.RowKit Go.Proofs.YtjbjofmcmjojlaaW.PrintWords Go.Proofs.YtjbjofmcmjojlaaW.PrintLast Go.Proofs.YtjbjofmcmjojlaaW.PrintMore
attribute [local go_sem] max2_int min2_int max_two min_two max_three min_three max_four min_four
set_option linter.unusedVariables false
set_option linter.unusedSimpArgs false
mutual
def slabvaultlaw12_SpaceInside.j0 : Nat → List Int → Int → Int → List (List Int) → Int → List Int → Bool → Option (Bool)
  | 0, _, _, _, _, _, _, _ => none
  | k + 1, x0, x5, x6, x7, x8, x9, x43 => if x43 = true then (some false) else (if x6 = 0 then (slabvaultlaw12_SpaceInside.j1 k x0 x5 x6 x7 x8 x9 (x8 != 0)) else (slabvaultlaw12_SpaceInside.j1 k x0 x5 x6 x7 x8 x9 true))
def slabvaultlaw12_SpaceInside.j1 : Nat → List Int → Int → Int → List (List Int) → Int → List Int → Bool → Option (Bool)
  | 0, _, _, _, _, _, _, _ => none
  | k + 1, x0, x5, x6, x7, x8, x9, x49 => if x49 = true then (if (x7.length : Int) = 0 then (if x6 = 0 then ((slabvaultlaw12_lives.f k).bind fun t238 => (some t238)) else (if x8 = x6 then ((slabvaultlaw12_lives.f k).bind fun t239 => (some t239)) else (some false))) else (some false)) else (slabvaultlaw12_SpaceInside.l0 k x0 x5 x7 x9 0)
def slabvaultlaw12_SpaceInside.l0 : Nat → List Int → Int → List (List Int) → List Int → Int → Option (Bool)
  | 0, _, _, _, _, _ => none
  | k + 1, x0, x5, x7, x9, x11 => if x11 < (x7.length : Int) then (if 0 ≤ x11 then (if x11 < (x9.length : Int) then (if (rd x9 x11) < 0 then (slabvaultlaw12_SpaceInside.j3 k x0 x5 x7 x9 x11 true) else (if (rd x9 x11) ≥ x5 then (slabvaultlaw12_SpaceInside.j3 k x0 x5 x7 x9 x11 true) else (slabvaultlaw12_SpaceInside.j3 k x0 x5 x7 x9 x11 (((rd_L1 x7 x11).length : Int) != (x0.length : Int))))) else (none)) else (none)) else ((slabvaultlaw12_lives.f k).bind fun t240 => (some t240))
def slabvaultlaw12_SpaceInside.j3 : Nat → List Int → Int → List (List Int) → List Int → Int → Bool → Option (Bool)
  | 0, _, _, _, _, _, _ => none
  | k + 1, x0, x5, x7, x9, x11, x93 => if x93 = true then (some false) else (if 0 ≤ x11 then (if x11 < (x9.length : Int) then (slabvaultlaw12_SpaceInside.l1 k x0 x5 x7 x9 x11 (rd x9 x11) (wrap64 ((x0.length : Int) - 1))) else (none)) else (none))
def slabvaultlaw12_SpaceInside.l1 : Nat → List Int → Int → List (List Int) → List Int → Int → Int → Int → Option (Bool)
  | 0, _, _, _, _, _, _, _ => none
  | k + 1, x0, x5, x7, x9, x11, x12, x13 => if x13 ≥ 0 then (if 0 ≤ x11 then (if x11 < (x7.length : Int) then (if 0 ≤ x13 then (if x13 < ((rd_L1 x7 x11).length : Int) then (if x13 < (x0.length : Int) then (if (rd x0 x13) = 0 then (none) else (if (rd (rd_L1 x7 x11) x13) = (Int.tmod x12 (rd x0 x13)) then (slabvaultlaw12_SpaceInside.l1 k x0 x5 x7 x9 x11 (wrap64 (Int.tdiv x12 (rd x0 x13))) (wrap64 (x13 - 1))) else (some false))) else (none)) else (none)) else (none)) else (none)) else (none)) else (slabvaultlaw12_SpaceInside.l0 k x0 x5 x7 x9 (wrap64 (x11 + 1)))
end
def slabvaultlaw12_SpaceInside.f (k : Nat) (l0 : List Int) (a1_0 : Int) (l1_1 : List (List Int)) (l1_2 : List Int) (l1_3 : List Int) (l1_4 : List Int) (l1_5 : List Int) : Option (Bool) := (slabvaultlaw12_great.f k a1_0 l1_1 l1_2 l1_3 l1_4 l1_5).bind fun t226 => (if t226 = true then ((slabvaultlaw12_lives.f k).bind fun t227 => (some t227)) else ((space_Elements.f l0).bind fun bt228 => ((space_Tuples.f k l0 a1_0 l1_1 l1_2 l1_3 l1_4 l1_5).bind fun bt230 => ((space_Places.f k l0 a1_0 l1_1 l1_2 l1_3 l1_4 l1_5).bind fun bt234 => (if bt230.2 = bt234.2 then (slabvaultlaw12_SpaceInside.j0 k l0 bt228.1 bt228.2 bt230.1 bt230.2 bt234.1 ((bt230.1.length : Int) != (bt234.1.length : Int))) else (slabvaultlaw12_SpaceInside.j0 k l0 bt228.1 bt228.2 bt230.1 bt230.2 bt234.1 true))))))
set_option maxHeartbeats 8000000 in
set_option maxRecDepth 100000 in
theorem slabvaultlaw12_SpaceInside.calls (k : Nat) (A0 : Option Addr) (c0 : Nat) (l0 : List Int) (a1_0 : Int) (A1_1 : Option Addr) (c1_1 : Nat) (l1_1 : List (List Int)) (A1_2 : Option Addr) (c1_2 : Nat) (l1_2 : List Int) (A1_3 : Option Addr) (c1_3 : Nat) (l1_3 : List Int) (A1_4 : Option Addr) (c1_4 : Nat) (l1_4 : List Int) (A1_5 : Option Addr) (c1_5 : Nat) (l1_5 : List Int) (r : Bool) (w : World) (hr0 : Kd.C (Kd.int .i64) w A0 l0.length l0) (hc0 : l0.length ≤ c0) (hr1_1 : Kd.C (Kd.slice 3 (Kd.int .i64)) w A1_1 l1_1.length l1_1) (hc1_1 : l1_1.length ≤ c1_1) (hr1_2 : Kd.C (Kd.int .i64) w A1_2 l1_2.length l1_2) (hc1_2 : l1_2.length ≤ c1_2) (hr1_3 : Kd.C (Kd.int .i64) w A1_3 l1_3.length l1_3) (hc1_3 : l1_3.length ≤ c1_3) (hr1_4 : Kd.C (Kd.int .i64) w A1_4 l1_4.length l1_4) (hc1_4 : l1_4.length ≤ c1_4) (hr1_5 : Kd.C (Kd.int .i64) w A1_5 l1_5.length l1_5) (hc1_5 : l1_5.length ≤ c1_5) (h : slabvaultlaw12_SpaceInside.f k l0 a1_0 l1_1 l1_2 l1_3 l1_4 l1_5 = some r) :
    Calls Try.prog 10 #[.slice A0 l0.length c0, .agg #[.int .i64 a1_0, .slice A1_1 l1_1.length c1_1, .slice A1_2 l1_2.length c1_2, .slice A1_3 l1_3.length c1_3, .slice A1_4 l1_4.length c1_4, .slice A1_5 l1_5.length c1_5]] w fun e w' => e = .returned (.bool r) ∧ Below w.heap.size w w' := by
  have hu33 := Try.underlying33
  have HR0 := Aside0.mk hr0
  have HC0 := Aside0.mk hc0
  clear hr0 hc0
  have HR1_1 := Aside0.mk hr1_1
  have HC1_1 := Aside0.mk hc1_1
  clear hr1_1 hc1_1
  have HR1_2 := Aside0.mk hr1_2
  have HC1_2 := Aside0.mk hc1_2
  clear hr1_2 hc1_2
  have HR1_3 := Aside0.mk hr1_3
  have HC1_3 := Aside0.mk hc1_3
  clear hr1_3 hc1_3
  have HR1_4 := Aside0.mk hr1_4
  have HC1_4 := Aside0.mk hc1_4
  clear hr1_4 hc1_4
  have HR1_5 := Aside0.mk hr1_5
  have HC1_5 := Aside0.mk hc1_5
  clear hr1_5 hc1_5
  have HB := Aside0.mk (Below.refl w.heap.size w)
  have H : ((slabvaultlaw12_great.f k a1_0 l1_1 l1_2 l1_3 l1_4 l1_5).bind fun t226 => (if t226 = true then ((slabvaultlaw12_lives.f k).bind fun t227 => (some t227)) else ((space_Elements.f l0).bind fun bt228 => ((space_Tuples.f k l0 a1_0 l1_1 l1_2 l1_3 l1_4 l1_5).bind fun bt230 => ((space_Places.f k l0 a1_0 l1_1 l1_2 l1_3 l1_4 l1_5).bind fun bt234 => (if bt230.2 = bt234.2 then (slabvaultlaw12_SpaceInside.j0 k l0 bt228.1 bt228.2 bt230.1 bt230.2 bt234.1 ((bt230.1.length : Int) != (bt234.1.length : Int))) else (slabvaultlaw12_SpaceInside.j0 k l0 bt228.1 bt228.2 bt230.1 bt230.2 bt234.1 true))))))) = some r := h
  clear h
  replace H := Option.bind_eq_some_iff.mp H
  obtain ⟨t226, A30, H⟩ := H
  replace H : (if t226 = true then ((slabvaultlaw12_lives.f k).bind fun t227 => (some t227)) else ((space_Elements.f l0).bind fun bt228 => ((space_Tuples.f k l0 a1_0 l1_1 l1_2 l1_3 l1_4 l1_5).bind fun bt230 => ((space_Places.f k l0 a1_0 l1_1 l1_2 l1_3 l1_4 l1_5).bind fun bt234 => (if bt230.2 = bt234.2 then (slabvaultlaw12_SpaceInside.j0 k l0 bt228.1 bt228.2 bt230.1 bt230.2 bt234.1 ((bt230.1.length : Int) != (bt234.1.length : Int))) else (slabvaultlaw12_SpaceInside.j0 k l0 bt228.1 bt228.2 bt230.1 bt230.2 bt234.1 true)))))) = some r := H
  have A3 := Aside0.mk A30
  clear A30
  by_cases c4 : t226 = true
  · subst c4
    have H1 : ((slabvaultlaw12_lives.f k).bind fun t227 => (some t227)) = some r := by rw [if_pos rfl] at H; exact H
    clear H
    have H := H1
    clear H1
    replace H := Option.bind_eq_some_iff.mp H
    obtain ⟨t227, A50, H⟩ := H
    replace H : (some t227) = some r := H
    have A5 := Aside0.mk A50
    clear A50
    obtain rfl := Option.some.inj H
    go_enter Try.func10, Try.ntmps10
    go_wp2_with (first | ((with_reducible refine gate_dst (N := 3) rfl ?_); (try (refine gate_guard (by rfl) ?_; dsimp only)); refine box_event ?hg (N := 3) ?hd (cs := #[.int .i64 a1_0, .slice A1_1 l1_1.length c1_1, .slice A1_2 l1_2.length c1_2, .slice A1_3 l1_3.length c1_3, .slice A1_4 l1_4.length c1_4, .slice A1_5 l1_5.length c1_5]) (t := 33) ?hr ?_; (case hd => rfl); (case hg => rfl); (case hr => first | (go_simp; done) | (go_simp; rfl)); intro gb225 hg w6 hbox hb; have n0_ := Aside0.mk (below_step (by repeat (first | (with_reducible first | exact HB.out | apply below_alloc | apply pw_below_drewN | apply below_drew1) | exact HB.out)) hb); have n1_ := Aside0.mk (hbox); have n2_ := Aside0.mk ((by rw [hg]; exact (below_size (by repeat (first | (with_reducible first | exact HB.out | apply below_alloc | apply pw_below_drewN | apply below_drew1) | exact HB.out))) : w.heap.size ≤ gb225)); have n3_ := Aside0.mk ((by rw [hg]; exact (below_size (by repeat (first | (with_reducible first | exact HB.out | apply below_alloc | apply pw_below_drewN | apply below_drew1) | exact HB.out))) : w.heap.size ≤ gb225)); clear HB; have HB := n0_; have BK225 := n1_; have GW225 := n2_; have GE225 := n3_; clear n0_ n1_ n2_ n3_; clear hb hbox hg; have hcz7_0 : w6.cell? ⟨gb225, 0, none⟩ = some (.int .i64 a1_0) := (blk_cell BK225.out 0).trans rfl; have hcz7_1 : w6.cell? ⟨gb225, 1, none⟩ = some (.slice A1_1 l1_1.length c1_1) := (blk_cell BK225.out 1).trans rfl; have hcz7_2 : w6.cell? ⟨gb225, 2, none⟩ = some (.slice A1_2 l1_2.length c1_2) := (blk_cell BK225.out 2).trans rfl; have hcz7_3 : w6.cell? ⟨gb225, 3, none⟩ = some (.slice A1_3 l1_3.length c1_3) := (blk_cell BK225.out 3).trans rfl; have hcz7_4 : w6.cell? ⟨gb225, 4, none⟩ = some (.slice A1_4 l1_4.length c1_4) := (blk_cell BK225.out 4).trans rfl; have hcz7_5 : w6.cell? ⟨gb225, 5, none⟩ = some (.slice A1_5 l1_5.length c1_5) := (blk_cell BK225.out 5).trans rfl; have hfz7_0 := blk_frozen BK225.out 0; have hfz7_1 := blk_frozen BK225.out 1; have hfz7_2 := blk_frozen BK225.out 2; have hfz7_3 := blk_frozen BK225.out 3; have hfz7_4 := blk_frozen BK225.out 4; have hfz7_5 := blk_frozen BK225.out 5) | (go_at_call 14; (with_reducible refine (slabvaultlaw12_great.calls k a1_0 _ _ l1_1 _ _ l1_2 _ _ l1_3 _ _ l1_4 _ _ l1_5 true _ ?side1 ?side2 ?side3 ?side4 ?side5 ?side6 ?side7 ?side8 ?side9 ?side10 A3.out).mono ?_); (case side1 => repeat (first | exact (Kd.C_below HR1_1.out HB.out) | (with_reducible refine Kd.C_alloc ?_ _) | (with_reducible refine Kd.C_drewN ?_ _) | (with_reducible refine Kd.C_drew ?_))); (case side2 => exact HC1_1.out); (case side3 => repeat (first | exact (Kd.C_below HR1_2.out HB.out) | (with_reducible refine Kd.C_alloc ?_ _) | (with_reducible refine Kd.C_drewN ?_ _) | (with_reducible refine Kd.C_drew ?_))); (case side4 => exact HC1_2.out); (case side5 => repeat (first | exact (Kd.C_below HR1_3.out HB.out) | (with_reducible refine Kd.C_alloc ?_ _) | (with_reducible refine Kd.C_drewN ?_ _) | (with_reducible refine Kd.C_drew ?_))); (case side6 => exact HC1_3.out); (case side7 => repeat (first | exact (Kd.C_below HR1_4.out HB.out) | (with_reducible refine Kd.C_alloc ?_ _) | (with_reducible refine Kd.C_drewN ?_ _) | (with_reducible refine Kd.C_drew ?_))); (case side8 => exact HC1_4.out); (case side9 => repeat (first | exact (Kd.C_below HR1_5.out HB.out) | (with_reducible refine Kd.C_alloc ?_ _) | (with_reducible refine Kd.C_drewN ?_ _) | (with_reducible refine Kd.C_drew ?_))); (case side10 => exact HC1_5.out); rintro e w8 ⟨rfl, hb⟩; have n0_ := Aside0.mk (blk_below (g := gb225) (o := .cells #[.int .i64 a1_0, .slice A1_1 l1_1.length c1_1, .slice A1_2 l1_2.length c1_2, .slice A1_3 l1_3.length c1_3, .slice A1_4 l1_4.length c1_4, .slice A1_5 l1_5.length c1_5] 33 (0, 0)) (by (with_reducible repeat (first | refine blk_drewN ?_ _ | refine blk_drew ?_ | refine blk_alloc ?_ _)); exact BK225.out) hb); have n1_ := Aside0.mk (below_step (by repeat (first | (with_reducible first | exact HB.out | apply below_alloc | apply pw_below_drewN | apply below_drew1 | refine below_set ?_ GE225.out) | exact HB.out)) hb); clear BK225; clear HB; have BK225 := n0_; have HB := n1_; clear n0_ n1_; (try clear hb); (try clear hb2); (try clear hk); (try clear hi)) | (go_at_call 13; (with_reducible refine (slabvaultlaw12_lives.calls k  t227 _ A5.out).mono ?_); rintro e w9 ⟨rfl, hb⟩; have n0_ := Aside0.mk (blk_below (g := gb225) (o := .cells #[.int .i64 a1_0, .slice A1_1 l1_1.length c1_1, .slice A1_2 l1_2.length c1_2, .slice A1_3 l1_3.length c1_3, .slice A1_4 l1_4.length c1_4, .slice A1_5 l1_5.length c1_5] 33 (0, 0)) (by (with_reducible repeat (first | refine blk_drewN ?_ _ | refine blk_drew ?_ | refine blk_alloc ?_ _)); exact BK225.out) hb); have n1_ := Aside0.mk (below_step (by repeat (first | (with_reducible first | exact HB.out | apply below_alloc | apply pw_below_drewN | apply below_drew1 | refine below_set ?_ GE225.out) | exact HB.out)) hb); clear BK225; clear HB; have BK225 := n0_; have HB := n1_; clear n0_ n1_; (try clear hb); (try clear hb2); (try clear hk); (try clear hi)))
    repeat (go_quiet (first | ((with_reducible refine gate_dst (N := 3) rfl ?_); (try (refine gate_guard (by rfl) ?_; dsimp only)); refine box_event ?hg (N := 3) ?hd (cs := #[.int .i64 a1_0, .slice A1_1 l1_1.length c1_1, .slice A1_2 l1_2.length c1_2, .slice A1_3 l1_3.length c1_3, .slice A1_4 l1_4.length c1_4, .slice A1_5 l1_5.length c1_5]) (t := 33) ?hr ?_; (case hd => rfl); (case hg => rfl); (case hr => first | (go_simp; done) | (go_simp; rfl)); intro gb225 hg w6 hbox hb; have n0_ := Aside0.mk (below_step (by repeat (first | (with_reducible first | exact HB.out | apply below_alloc | apply pw_below_drewN | apply below_drew1) | exact HB.out)) hb); have n1_ := Aside0.mk (hbox); have n2_ := Aside0.mk ((by rw [hg]; exact (below_size (by repeat (first | (with_reducible first | exact HB.out | apply below_alloc | apply pw_below_drewN | apply below_drew1) | exact HB.out))) : w.heap.size ≤ gb225)); have n3_ := Aside0.mk ((by rw [hg]; exact (below_size (by repeat (first | (with_reducible first | exact HB.out | apply below_alloc | apply pw_below_drewN | apply below_drew1) | exact HB.out))) : w.heap.size ≤ gb225)); clear HB; have HB := n0_; have BK225 := n1_; have GW225 := n2_; have GE225 := n3_; clear n0_ n1_ n2_ n3_; clear hb hbox hg; have hcz7_0 : w6.cell? ⟨gb225, 0, none⟩ = some (.int .i64 a1_0) := (blk_cell BK225.out 0).trans rfl; have hcz7_1 : w6.cell? ⟨gb225, 1, none⟩ = some (.slice A1_1 l1_1.length c1_1) := (blk_cell BK225.out 1).trans rfl; have hcz7_2 : w6.cell? ⟨gb225, 2, none⟩ = some (.slice A1_2 l1_2.length c1_2) := (blk_cell BK225.out 2).trans rfl; have hcz7_3 : w6.cell? ⟨gb225, 3, none⟩ = some (.slice A1_3 l1_3.length c1_3) := (blk_cell BK225.out 3).trans rfl; have hcz7_4 : w6.cell? ⟨gb225, 4, none⟩ = some (.slice A1_4 l1_4.length c1_4) := (blk_cell BK225.out 4).trans rfl; have hcz7_5 : w6.cell? ⟨gb225, 5, none⟩ = some (.slice A1_5 l1_5.length c1_5) := (blk_cell BK225.out 5).trans rfl; have hfz7_0 := blk_frozen BK225.out 0; have hfz7_1 := blk_frozen BK225.out 1; have hfz7_2 := blk_frozen BK225.out 2; have hfz7_3 := blk_frozen BK225.out 3; have hfz7_4 := blk_frozen BK225.out 4; have hfz7_5 := blk_frozen BK225.out 5) | (go_at_call 14; (with_reducible refine (slabvaultlaw12_great.calls k a1_0 _ _ l1_1 _ _ l1_2 _ _ l1_3 _ _ l1_4 _ _ l1_5 true _ ?side1 ?side2 ?side3 ?side4 ?side5 ?side6 ?side7 ?side8 ?side9 ?side10 A3.out).mono ?_); (case side1 => repeat (first | exact (Kd.C_below HR1_1.out HB.out) | (with_reducible refine Kd.C_alloc ?_ _) | (with_reducible refine Kd.C_drewN ?_ _) | (with_reducible refine Kd.C_drew ?_))); (case side2 => exact HC1_1.out); (case side3 => repeat (first | exact (Kd.C_below HR1_2.out HB.out) | (with_reducible refine Kd.C_alloc ?_ _) | (with_reducible refine Kd.C_drewN ?_ _) | (with_reducible refine Kd.C_drew ?_))); (case side4 => exact HC1_2.out); (case side5 => repeat (first | exact (Kd.C_below HR1_3.out HB.out) | (with_reducible refine Kd.C_alloc ?_ _) | (with_reducible refine Kd.C_drewN ?_ _) | (with_reducible refine Kd.C_drew ?_))); (case side6 => exact HC1_3.out); (case side7 => repeat (first | exact (Kd.C_below HR1_4.out HB.out) | (with_reducible refine Kd.C_alloc ?_ _) | (with_reducible refine Kd.C_drewN ?_ _) | (with_reducible refine Kd.C_drew ?_))); (case side8 => exact HC1_4.out); (case side9 => repeat (first | exact (Kd.C_below HR1_5.out HB.out) | (with_reducible refine Kd.C_alloc ?_ _) | (with_reducible refine Kd.C_drewN ?_ _) | (with_reducible refine Kd.C_drew ?_))); (case side10 => exact HC1_5.out); rintro e w8 ⟨rfl, hb⟩; have n0_ := Aside0.mk (blk_below (g := gb225) (o := .cells #[.int .i64 a1_0, .slice A1_1 l1_1.length c1_1, .slice A1_2 l1_2.length c1_2, .slice A1_3 l1_3.length c1_3, .slice A1_4 l1_4.length c1_4, .slice A1_5 l1_5.length c1_5] 33 (0, 0)) (by (with_reducible repeat (first | refine blk_drewN ?_ _ | refine blk_drew ?_ | refine blk_alloc ?_ _)); exact BK225.out) hb); have n1_ := Aside0.mk (below_step (by repeat (first | (with_reducible first | exact HB.out | apply below_alloc | apply pw_below_drewN | apply below_drew1 | refine below_set ?_ GE225.out) | exact HB.out)) hb); clear BK225; clear HB; have BK225 := n0_; have HB := n1_; clear n0_ n1_; (try clear hb); (try clear hb2); (try clear hk); (try clear hi)) | (go_at_call 13; (with_reducible refine (slabvaultlaw12_lives.calls k  t227 _ A5.out).mono ?_); rintro e w9 ⟨rfl, hb⟩; have n0_ := Aside0.mk (blk_below (g := gb225) (o := .cells #[.int .i64 a1_0, .slice A1_1 l1_1.length c1_1, .slice A1_2 l1_2.length c1_2, .slice A1_3 l1_3.length c1_3, .slice A1_4 l1_4.length c1_4, .slice A1_5 l1_5.length c1_5] 33 (0, 0)) (by (with_reducible repeat (first | refine blk_drewN ?_ _ | refine blk_drew ?_ | refine blk_alloc ?_ _)); exact BK225.out) hb); have n1_ := Aside0.mk (below_step (by repeat (first | (with_reducible first | exact HB.out | apply below_alloc | apply pw_below_drewN | apply below_drew1 | refine below_set ?_ GE225.out) | exact HB.out)) hb); clear BK225; clear HB; have BK225 := n0_; have HB := n1_; clear n0_ n1_; (try clear hb); (try clear hb2); (try clear hk); (try clear hi))); try go_wp2_with (first | ((with_reducible refine gate_dst (N := 3) rfl ?_); (try (refine gate_guard (by rfl) ?_; dsimp only)); refine box_event ?hg (N := 3) ?hd (cs := #[.int .i64 a1_0, .slice A1_1 l1_1.length c1_1, .slice A1_2 l1_2.length c1_2, .slice A1_3 l1_3.length c1_3, .slice A1_4 l1_4.length c1_4, .slice A1_5 l1_5.length c1_5]) (t := 33) ?hr ?_; (case hd => rfl); (case hg => rfl); (case hr => first | (go_simp; done) | (go_simp; rfl)); intro gb225 hg w6 hbox hb; have n0_ := Aside0.mk (below_step (by repeat (first | (with_reducible first | exact HB.out | apply below_alloc | apply pw_below_drewN | apply below_drew1) | exact HB.out)) hb); have n1_ := Aside0.mk (hbox); have n2_ := Aside0.mk ((by rw [hg]; exact (below_size (by repeat (first | (with_reducible first | exact HB.out | apply below_alloc | apply pw_below_drewN | apply below_drew1) | exact HB.out))) : w.heap.size ≤ gb225)); have n3_ := Aside0.mk ((by rw [hg]; exact (below_size (by repeat (first | (with_reducible first | exact HB.out | apply below_alloc | apply pw_below_drewN | apply below_drew1) | exact HB.out))) : w.heap.size ≤ gb225)); clear HB; have HB := n0_; have BK225 := n1_; have GW225 := n2_; have GE225 := n3_; clear n0_ n1_ n2_ n3_; clear hb hbox hg; have hcz7_0 : w6.cell? ⟨gb225, 0, none⟩ = some (.int .i64 a1_0) := (blk_cell BK225.out 0).trans rfl; have hcz7_1 : w6.cell? ⟨gb225, 1, none⟩ = some (.slice A1_1 l1_1.length c1_1) := (blk_cell BK225.out 1).trans rfl; have hcz7_2 : w6.cell? ⟨gb225, 2, none⟩ = some (.slice A1_2 l1_2.length c1_2) := (blk_cell BK225.out 2).trans rfl; have hcz7_3 : w6.cell? ⟨gb225, 3, none⟩ = some (.slice A1_3 l1_3.length c1_3) := (blk_cell BK225.out 3).trans rfl; have hcz7_4 : w6.cell? ⟨gb225, 4, none⟩ = some (.slice A1_4 l1_4.length c1_4) := (blk_cell BK225.out 4).trans rfl; have hcz7_5 : w6.cell? ⟨gb225, 5, none⟩ = some (.slice A1_5 l1_5.length c1_5) := (blk_cell BK225.out 5).trans rfl; have hfz7_0 := blk_frozen BK225.out 0; have hfz7_1 := blk_frozen BK225.out 1; have hfz7_2 := blk_frozen BK225.out 2; have hfz7_3 := blk_frozen BK225.out 3; have hfz7_4 := blk_frozen BK225.out 4; have hfz7_5 := blk_frozen BK225.out 5) | (go_at_call 14; (with_reducible refine (slabvaultlaw12_great.calls k a1_0 _ _ l1_1 _ _ l1_2 _ _ l1_3 _ _ l1_4 _ _ l1_5 true _ ?side1 ?side2 ?side3 ?side4 ?side5 ?side6 ?side7 ?side8 ?side9 ?side10 A3.out).mono ?_); (case side1 => repeat (first | exact (Kd.C_below HR1_1.out HB.out) | (with_reducible refine Kd.C_alloc ?_ _) | (with_reducible refine Kd.C_drewN ?_ _) | (with_reducible refine Kd.C_drew ?_))); (case side2 => exact HC1_1.out); (case side3 => repeat (first | exact (Kd.C_below HR1_2.out HB.out) | (with_reducible refine Kd.C_alloc ?_ _) | (with_reducible refine Kd.C_drewN ?_ _) | (with_reducible refine Kd.C_drew ?_))); (case side4 => exact HC1_2.out); (case side5 => repeat (first | exact (Kd.C_below HR1_3.out HB.out) | (with_reducible refine Kd.C_alloc ?_ _) | (with_reducible refine Kd.C_drewN ?_ _) | (with_reducible refine Kd.C_drew ?_))); (case side6 => exact HC1_3.out); (case side7 => repeat (first | exact (Kd.C_below HR1_4.out HB.out) | (with_reducible refine Kd.C_alloc ?_ _) | (with_reducible refine Kd.C_drewN ?_ _) | (with_reducible refine Kd.C_drew ?_))); (case side8 => exact HC1_4.out); (case side9 => repeat (first | exact (Kd.C_below HR1_5.out HB.out) | (with_reducible refine Kd.C_alloc ?_ _) | (with_reducible refine Kd.C_drewN ?_ _) | (with_reducible refine Kd.C_drew ?_))); (case side10 => exact HC1_5.out); rintro e w8 ⟨rfl, hb⟩; have n0_ := Aside0.mk (blk_below (g := gb225) (o := .cells #[.int .i64 a1_0, .slice A1_1 l1_1.length c1_1, .slice A1_2 l1_2.length c1_2, .slice A1_3 l1_3.length c1_3, .slice A1_4 l1_4.length c1_4, .slice A1_5 l1_5.length c1_5] 33 (0, 0)) (by (with_reducible repeat (first | refine blk_drewN ?_ _ | refine blk_drew ?_ | refine blk_alloc ?_ _)); exact BK225.out) hb); have n1_ := Aside0.mk (below_step (by repeat (first | (with_reducible first | exact HB.out | apply below_alloc | apply pw_below_drewN | apply below_drew1 | refine below_set ?_ GE225.out) | exact HB.out)) hb); clear BK225; clear HB; have BK225 := n0_; have HB := n1_; clear n0_ n1_; (try clear hb); (try clear hb2); (try clear hk); (try clear hi)) | (go_at_call 13; (with_reducible refine (slabvaultlaw12_lives.calls k  t227 _ A5.out).mono ?_); rintro e w9 ⟨rfl, hb⟩; have n0_ := Aside0.mk (blk_below (g := gb225) (o := .cells #[.int .i64 a1_0, .slice A1_1 l1_1.length c1_1, .slice A1_2 l1_2.length c1_2, .slice A1_3 l1_3.length c1_3, .slice A1_4 l1_4.length c1_4, .slice A1_5 l1_5.length c1_5] 33 (0, 0)) (by (with_reducible repeat (first | refine blk_drewN ?_ _ | refine blk_drew ?_ | refine blk_alloc ?_ _)); exact BK225.out) hb); have n1_ := Aside0.mk (below_step (by repeat (first | (with_reducible first | exact HB.out | apply below_alloc | apply pw_below_drewN | apply below_drew1 | refine below_set ?_ GE225.out) | exact HB.out)) hb); clear BK225; clear HB; have BK225 := n0_; have HB := n1_; clear n0_ n1_; (try clear hb); (try clear hb2); (try clear hk); (try clear hi))))
    go_ret
    exact ⟨by first | rfl | (simp [errW_none, errW_some] <;> rfl) | (simp [*, errW_none, errW_some] <;> rfl), by repeat (first | (with_reducible first | exact HB.out | apply below_alloc | apply pw_below_drewN | apply below_drew1 | refine below_set ?_ GE225.out) | exact HB.out)⟩
  · replace c4 := Bool.eq_false_iff.mpr c4
    subst c4
    have H1 : ((space_Elements.f l0).bind fun bt228 => ((space_Tuples.f k l0 a1_0 l1_1 l1_2 l1_3 l1_4 l1_5).bind fun bt230 => ((space_Places.f k l0 a1_0 l1_1 l1_2 l1_3 l1_4 l1_5).bind fun bt234 => (if bt230.2 = bt234.2 then (slabvaultlaw12_SpaceInside.j0 k l0 bt228.1 bt228.2 bt230.1 bt230.2 bt234.1 ((bt230.1.length : Int) != (bt234.1.length : Int))) else (slabvaultlaw12_SpaceInside.j0 k l0 bt228.1 bt228.2 bt230.1 bt230.2 bt234.1 true))))) = some r := by rw [if_neg (show ¬ (false = true) by decide)] at H; exact H
    clear H
    have H := H1
    clear H1
    replace H := Option.bind_eq_some_iff.mp H
    obtain ⟨⟨t228, t229⟩, A100, H⟩ := H
    replace H : ((space_Tuples.f k l0 a1_0 l1_1 l1_2 l1_3 l1_4 l1_5).bind fun bt230 => ((space_Places.f k l0 a1_0 l1_1 l1_2 l1_3 l1_4 l1_5).bind fun bt234 => (if bt230.2 = bt234.2 then (slabvaultlaw12_SpaceInside.j0 k l0 t228 t229 bt230.1 bt230.2 bt234.1 ((bt230.1.length : Int) != (bt234.1.length : Int))) else (slabvaultlaw12_SpaceInside.j0 k l0 t228 t229 bt230.1 bt230.2 bt234.1 true)))) = some r := H
    have A10 := Aside0.mk A100
    clear A100
    replace H := Option.bind_eq_some_iff.mp H
    obtain ⟨⟨t230, t233⟩, A110, H⟩ := H
    replace H : ((space_Places.f k l0 a1_0 l1_1 l1_2 l1_3 l1_4 l1_5).bind fun bt234 => (if t233 = bt234.2 then (slabvaultlaw12_SpaceInside.j0 k l0 t228 t229 t230 t233 bt234.1 ((t230.length : Int) != (bt234.1.length : Int))) else (slabvaultlaw12_SpaceInside.j0 k l0 t228 t229 t230 t233 bt234.1 true))) = some r := H
    have A11 := Aside0.mk A110
    clear A110
    replace H := Option.bind_eq_some_iff.mp H
    obtain ⟨⟨t234, t237⟩, A120, H⟩ := H
    replace H : (if t233 = t237 then (slabvaultlaw12_SpaceInside.j0 k l0 t228 t229 t230 t233 t234 ((t230.length : Int) != (t234.length : Int))) else (slabvaultlaw12_SpaceInside.j0 k l0 t228 t229 t230 t233 t234 true)) = some r := H
    have A12 := Aside0.mk A120
    clear A120
    have HC13 := Aside0.mk H
    clear H
    go_enter Try.func10, Try.ntmps10
    go_upto_region 6 with (first | ((with_reducible refine gate_dst (N := 3) rfl ?_); (try (refine gate_guard (by rfl) ?_; dsimp only)); refine box_event ?hg (N := 3) ?hd (cs := #[.int .i64 a1_0, .slice A1_1 l1_1.length c1_1, .slice A1_2 l1_2.length c1_2, .slice A1_3 l1_3.length c1_3, .slice A1_4 l1_4.length c1_4, .slice A1_5 l1_5.length c1_5]) (t := 33) ?hr ?_; (case hd => rfl); (case hg => rfl); (case hr => first | (go_simp; done) | (go_simp; rfl)); intro gb225 hg w14 hbox hb; have n0_ := Aside0.mk (below_step (by repeat (first | (with_reducible first | exact HB.out | apply below_alloc | apply pw_below_drewN | apply below_drew1) | exact HB.out)) hb); have n1_ := Aside0.mk (hbox); have n2_ := Aside0.mk ((by rw [hg]; exact (below_size (by repeat (first | (with_reducible first | exact HB.out | apply below_alloc | apply pw_below_drewN | apply below_drew1) | exact HB.out))) : w.heap.size ≤ gb225)); have n3_ := Aside0.mk ((by rw [hg]; exact (below_size (by repeat (first | (with_reducible first | exact HB.out | apply below_alloc | apply pw_below_drewN | apply below_drew1) | exact HB.out))) : w.heap.size ≤ gb225)); clear HB; have HB := n0_; have BK225 := n1_; have GW225 := n2_; have GE225 := n3_; clear n0_ n1_ n2_ n3_; clear hb hbox hg; have hcz15_0 : w14.cell? ⟨gb225, 0, none⟩ = some (.int .i64 a1_0) := (blk_cell BK225.out 0).trans rfl; have hcz15_1 : w14.cell? ⟨gb225, 1, none⟩ = some (.slice A1_1 l1_1.length c1_1) := (blk_cell BK225.out 1).trans rfl; have hcz15_2 : w14.cell? ⟨gb225, 2, none⟩ = some (.slice A1_2 l1_2.length c1_2) := (blk_cell BK225.out 2).trans rfl; have hcz15_3 : w14.cell? ⟨gb225, 3, none⟩ = some (.slice A1_3 l1_3.length c1_3) := (blk_cell BK225.out 3).trans rfl; have hcz15_4 : w14.cell? ⟨gb225, 4, none⟩ = some (.slice A1_4 l1_4.length c1_4) := (blk_cell BK225.out 4).trans rfl; have hcz15_5 : w14.cell? ⟨gb225, 5, none⟩ = some (.slice A1_5 l1_5.length c1_5) := (blk_cell BK225.out 5).trans rfl; have hfz15_0 := blk_frozen BK225.out 0; have hfz15_1 := blk_frozen BK225.out 1; have hfz15_2 := blk_frozen BK225.out 2; have hfz15_3 := blk_frozen BK225.out 3; have hfz15_4 := blk_frozen BK225.out 4; have hfz15_5 := blk_frozen BK225.out 5) | (go_at_call 14; (with_reducible refine (slabvaultlaw12_great.calls k a1_0 _ _ l1_1 _ _ l1_2 _ _ l1_3 _ _ l1_4 _ _ l1_5 false _ ?side1 ?side2 ?side3 ?side4 ?side5 ?side6 ?side7 ?side8 ?side9 ?side10 A3.out).mono ?_); (case side1 => repeat (first | exact (Kd.C_below HR1_1.out HB.out) | (with_reducible refine Kd.C_alloc ?_ _) | (with_reducible refine Kd.C_drewN ?_ _) | (with_reducible refine Kd.C_drew ?_))); (case side2 => exact HC1_1.out); (case side3 => repeat (first | exact (Kd.C_below HR1_2.out HB.out) | (with_reducible refine Kd.C_alloc ?_ _) | (with_reducible refine Kd.C_drewN ?_ _) | (with_reducible refine Kd.C_drew ?_))); (case side4 => exact HC1_2.out); (case side5 => repeat (first | exact (Kd.C_below HR1_3.out HB.out) | (with_reducible refine Kd.C_alloc ?_ _) | (with_reducible refine Kd.C_drewN ?_ _) | (with_reducible refine Kd.C_drew ?_))); (case side6 => exact HC1_3.out); (case side7 => repeat (first | exact (Kd.C_below HR1_4.out HB.out) | (with_reducible refine Kd.C_alloc ?_ _) | (with_reducible refine Kd.C_drewN ?_ _) | (with_reducible refine Kd.C_drew ?_))); (case side8 => exact HC1_4.out); (case side9 => repeat (first | exact (Kd.C_below HR1_5.out HB.out) | (with_reducible refine Kd.C_alloc ?_ _) | (with_reducible refine Kd.C_drewN ?_ _) | (with_reducible refine Kd.C_drew ?_))); (case side10 => exact HC1_5.out); rintro e w16 ⟨rfl, hb⟩; have n0_ := Aside0.mk (blk_below (g := gb225) (o := .cells #[.int .i64 a1_0, .slice A1_1 l1_1.length c1_1, .slice A1_2 l1_2.length c1_2, .slice A1_3 l1_3.length c1_3, .slice A1_4 l1_4.length c1_4, .slice A1_5 l1_5.length c1_5] 33 (0, 0)) (by (with_reducible repeat (first | refine blk_drewN ?_ _ | refine blk_drew ?_ | refine blk_alloc ?_ _)); exact BK225.out) hb); have n1_ := Aside0.mk (below_step (by repeat (first | (with_reducible first | exact HB.out | apply below_alloc | apply pw_below_drewN | apply below_drew1 | refine below_set ?_ GE225.out) | exact HB.out)) hb); clear BK225; clear HB; have BK225 := n0_; have HB := n1_; clear n0_ n1_; (try clear hb); (try clear hb2); (try clear hk); (try clear hi)) | (go_at_call 11; (with_reducible refine (space_Elements.calls _ _ l0 t228 t229 _ ?side1 ?side2 A10.out).mono ?_); (case side1 => repeat (first | exact (Kd.C_below HR0.out HB.out) | (with_reducible refine Kd.C_alloc ?_ _) | (with_reducible refine Kd.C_drewN ?_ _) | (with_reducible refine Kd.C_drew ?_))); (case side2 => exact HC0.out); rintro e w' ⟨rfl, ⟨nd, rfl⟩⟩; (try first | exact ⟨rfl, _, World.drewN_drewN _ _ _⟩ | exact ⟨rfl, _, Eq.trans (World.drewN_drewN _ _ _) (congrArg (World.drewN _) (Nat.add_assoc _ _ _))⟩); have hcz17_0 : w16.cell? ⟨gb225, 0, none⟩ = some (.int .i64 a1_0) := (blk_cell BK225.out 0).trans rfl; have hcz17_1 : w16.cell? ⟨gb225, 1, none⟩ = some (.slice A1_1 l1_1.length c1_1) := (blk_cell BK225.out 1).trans rfl; have hcz17_2 : w16.cell? ⟨gb225, 2, none⟩ = some (.slice A1_2 l1_2.length c1_2) := (blk_cell BK225.out 2).trans rfl; have hcz17_3 : w16.cell? ⟨gb225, 3, none⟩ = some (.slice A1_3 l1_3.length c1_3) := (blk_cell BK225.out 3).trans rfl; have hcz17_4 : w16.cell? ⟨gb225, 4, none⟩ = some (.slice A1_4 l1_4.length c1_4) := (blk_cell BK225.out 4).trans rfl; have hcz17_5 : w16.cell? ⟨gb225, 5, none⟩ = some (.slice A1_5 l1_5.length c1_5) := (blk_cell BK225.out 5).trans rfl; have hfz17_0 := blk_frozen BK225.out 0; have hfz17_1 := blk_frozen BK225.out 1; have hfz17_2 := blk_frozen BK225.out 2; have hfz17_3 := blk_frozen BK225.out 3; have hfz17_4 := blk_frozen BK225.out 4; have hfz17_5 := blk_frozen BK225.out 5) | (go_at_call 22; (with_reducible refine (space_Tuples.calls k _ _ l0 a1_0 _ _ l1_1 _ _ l1_2 _ _ l1_3 _ _ l1_4 _ _ l1_5 t230 t233 _ ?side1 ?side2 ?side3 ?side4 ?side5 ?side6 ?side7 ?side8 ?side9 ?side10 ?side11 ?side12 A11.out).mono ?_); (case side1 => repeat (first | exact (Kd.C_below HR0.out (by repeat (first | (with_reducible first | exact HB.out | apply below_alloc | apply pw_below_drewN | apply below_drew1 | refine below_set ?_ GE225.out) | exact HB.out))) | (with_reducible refine Kd.C_alloc ?_ _) | (with_reducible refine Kd.C_drewN ?_ _) | (with_reducible refine Kd.C_drew ?_))); (case side2 => exact HC0.out); (case side3 => repeat (first | exact (Kd.C_below HR1_1.out (by repeat (first | (with_reducible first | exact HB.out | apply below_alloc | apply pw_below_drewN | apply below_drew1 | refine below_set ?_ GE225.out) | exact HB.out))) | (with_reducible refine Kd.C_alloc ?_ _) | (with_reducible refine Kd.C_drewN ?_ _) | (with_reducible refine Kd.C_drew ?_))); (case side4 => exact HC1_1.out); (case side5 => repeat (first | exact (Kd.C_below HR1_2.out (by repeat (first | (with_reducible first | exact HB.out | apply below_alloc | apply pw_below_drewN | apply below_drew1 | refine below_set ?_ GE225.out) | exact HB.out))) | (with_reducible refine Kd.C_alloc ?_ _) | (with_reducible refine Kd.C_drewN ?_ _) | (with_reducible refine Kd.C_drew ?_))); (case side6 => exact HC1_2.out); (case side7 => repeat (first | exact (Kd.C_below HR1_3.out (by repeat (first | (with_reducible first | exact HB.out | apply below_alloc | apply pw_below_drewN | apply below_drew1 | refine below_set ?_ GE225.out) | exact HB.out))) | (with_reducible refine Kd.C_alloc ?_ _) | (with_reducible refine Kd.C_drewN ?_ _) | (with_reducible refine Kd.C_drew ?_))); (case side8 => exact HC1_3.out); (case side9 => repeat (first | exact (Kd.C_below HR1_4.out (by repeat (first | (with_reducible first | exact HB.out | apply below_alloc | apply pw_below_drewN | apply below_drew1 | refine below_set ?_ GE225.out) | exact HB.out))) | (with_reducible refine Kd.C_alloc ?_ _) | (with_reducible refine Kd.C_drewN ?_ _) | (with_reducible refine Kd.C_drew ?_))); (case side10 => exact HC1_4.out); (case side11 => repeat (first | exact (Kd.C_below HR1_5.out (by repeat (first | (with_reducible first | exact HB.out | apply below_alloc | apply pw_below_drewN | apply below_drew1 | refine below_set ?_ GE225.out) | exact HB.out))) | (with_reducible refine Kd.C_alloc ?_ _) | (with_reducible refine Kd.C_drewN ?_ _) | (with_reducible refine Kd.C_drew ?_))); (case side12 => exact HC1_5.out); rintro e w18 ⟨v231, rfl, ho0, hb⟩; have n0_ := Aside0.mk (Kd.S_lower ho0 (below_size (by repeat (first | (with_reducible first | exact HB.out | apply below_alloc | apply pw_below_drewN | apply below_drew1 | refine below_set ?_ GE225.out) | exact HB.out)))); have n1_ := Aside0.mk (blk_below (g := gb225) (o := .cells #[.int .i64 a1_0, .slice A1_1 l1_1.length c1_1, .slice A1_2 l1_2.length c1_2, .slice A1_3 l1_3.length c1_3, .slice A1_4 l1_4.length c1_4, .slice A1_5 l1_5.length c1_5] 33 (0, 0)) (by (with_reducible repeat (first | refine blk_drewN ?_ _ | refine blk_drew ?_ | refine blk_alloc ?_ _)); exact BK225.out) hb); have n2_ := Aside0.mk (below_step (by repeat (first | (with_reducible first | exact HB.out | apply below_alloc | apply pw_below_drewN | apply below_drew1 | refine below_set ?_ GE225.out) | exact HB.out)) hb); clear BK225; clear HB; have HO232 := n0_; have BK225 := n1_; have HB := n2_; clear n0_ n1_ n2_; (try clear hb); (try clear hb2); (try clear hk); (try clear hi); (try clear ho0); have hcz19_0 : w18.cell? ⟨gb225, 0, none⟩ = some (.int .i64 a1_0) := (blk_cell BK225.out 0).trans rfl; have hcz19_1 : w18.cell? ⟨gb225, 1, none⟩ = some (.slice A1_1 l1_1.length c1_1) := (blk_cell BK225.out 1).trans rfl; have hcz19_2 : w18.cell? ⟨gb225, 2, none⟩ = some (.slice A1_2 l1_2.length c1_2) := (blk_cell BK225.out 2).trans rfl; have hcz19_3 : w18.cell? ⟨gb225, 3, none⟩ = some (.slice A1_3 l1_3.length c1_3) := (blk_cell BK225.out 3).trans rfl; have hcz19_4 : w18.cell? ⟨gb225, 4, none⟩ = some (.slice A1_4 l1_4.length c1_4) := (blk_cell BK225.out 4).trans rfl; have hcz19_5 : w18.cell? ⟨gb225, 5, none⟩ = some (.slice A1_5 l1_5.length c1_5) := (blk_cell BK225.out 5).trans rfl; have hfz19_0 := blk_frozen BK225.out 0; have hfz19_1 := blk_frozen BK225.out 1; have hfz19_2 := blk_frozen BK225.out 2; have hfz19_3 := blk_frozen BK225.out 3; have hfz19_4 := blk_frozen BK225.out 4; have hfz19_5 := blk_frozen BK225.out 5) | (go_at_call 15; (with_reducible refine (space_Places.calls k _ _ l0 a1_0 _ _ l1_1 _ _ l1_2 _ _ l1_3 _ _ l1_4 _ _ l1_5 t234 t237 _ ?side1 ?side2 ?side3 ?side4 ?side5 ?side6 ?side7 ?side8 ?side9 ?side10 ?side11 ?side12 A12.out).mono ?_); (case side1 => repeat (first | exact (Kd.C_below HR0.out HB.out) | (with_reducible refine Kd.C_alloc ?_ _) | (with_reducible refine Kd.C_drewN ?_ _) | (with_reducible refine Kd.C_drew ?_))); (case side2 => exact HC0.out); (case side3 => repeat (first | exact (Kd.C_below HR1_1.out HB.out) | (with_reducible refine Kd.C_alloc ?_ _) | (with_reducible refine Kd.C_drewN ?_ _) | (with_reducible refine Kd.C_drew ?_))); (case side4 => exact HC1_1.out); (case side5 => repeat (first | exact (Kd.C_below HR1_2.out HB.out) | (with_reducible refine Kd.C_alloc ?_ _) | (with_reducible refine Kd.C_drewN ?_ _) | (with_reducible refine Kd.C_drew ?_))); (case side6 => exact HC1_2.out); (case side7 => repeat (first | exact (Kd.C_below HR1_3.out HB.out) | (with_reducible refine Kd.C_alloc ?_ _) | (with_reducible refine Kd.C_drewN ?_ _) | (with_reducible refine Kd.C_drew ?_))); (case side8 => exact HC1_3.out); (case side9 => repeat (first | exact (Kd.C_below HR1_4.out HB.out) | (with_reducible refine Kd.C_alloc ?_ _) | (with_reducible refine Kd.C_drewN ?_ _) | (with_reducible refine Kd.C_drew ?_))); (case side10 => exact HC1_4.out); (case side11 => repeat (first | exact (Kd.C_below HR1_5.out HB.out) | (with_reducible refine Kd.C_alloc ?_ _) | (with_reducible refine Kd.C_drewN ?_ _) | (with_reducible refine Kd.C_drew ?_))); (case side12 => exact HC1_5.out); rintro e w20 ⟨v235, rfl, ho0, hb⟩; have n0_ := Aside0.mk (Kd.S_elder' (by (with_reducible repeat (first | apply Kd.S_alloc | apply Kd.S_drewN | apply Kd.S_drew)); exact HO232.out) (Kd.R_base ho0) hb); have n1_ := Aside0.mk (Kd.R_lower ho0 (below_size (by repeat (first | (with_reducible first | exact HB.out | apply below_alloc | apply pw_below_drewN | apply below_drew1 | refine below_set ?_ GE225.out) | exact HB.out)))); have n2_ := Aside0.mk (blk_below (g := gb225) (o := .cells #[.int .i64 a1_0, .slice A1_1 l1_1.length c1_1, .slice A1_2 l1_2.length c1_2, .slice A1_3 l1_3.length c1_3, .slice A1_4 l1_4.length c1_4, .slice A1_5 l1_5.length c1_5] 33 (0, 0)) (by (with_reducible repeat (first | refine blk_drewN ?_ _ | refine blk_drew ?_ | refine blk_alloc ?_ _)); exact BK225.out) hb); have n3_ := Aside0.mk (below_step (by repeat (first | (with_reducible first | exact HB.out | apply below_alloc | apply pw_below_drewN | apply below_drew1 | refine below_set ?_ GE225.out) | exact HB.out)) hb); clear HO232; clear BK225; clear HB; have HO232 := n0_; have HO236 := n1_; have BK225 := n2_; have HB := n3_; clear n0_ n1_ n2_ n3_; (try clear hb); (try clear hb2); (try clear hk); (try clear hi); (try clear ho0)))
    repeat (go_quiet (first | ((with_reducible refine gate_dst (N := 3) rfl ?_); (try (refine gate_guard (by rfl) ?_; dsimp only)); refine box_event ?hg (N := 3) ?hd (cs := #[.int .i64 a1_0, .slice A1_1 l1_1.length c1_1, .slice A1_2 l1_2.length c1_2, .slice A1_3 l1_3.length c1_3, .slice A1_4 l1_4.length c1_4, .slice A1_5 l1_5.length c1_5]) (t := 33) ?hr ?_; (case hd => rfl); (case hg => rfl); (case hr => first | (go_simp; done) | (go_simp; rfl)); intro gb225 hg w14 hbox hb; have n0_ := Aside0.mk (below_step (by repeat (first | (with_reducible first | exact HB.out | apply below_alloc | apply pw_below_drewN | apply below_drew1) | exact HB.out)) hb); have n1_ := Aside0.mk (hbox); have n2_ := Aside0.mk ((by rw [hg]; exact (below_size (by repeat (first | (with_reducible first | exact HB.out | apply below_alloc | apply pw_below_drewN | apply below_drew1) | exact HB.out))) : w.heap.size ≤ gb225)); have n3_ := Aside0.mk ((by rw [hg]; exact (below_size (by repeat (first | (with_reducible first | exact HB.out | apply below_alloc | apply pw_below_drewN | apply below_drew1) | exact HB.out))) : w.heap.size ≤ gb225)); clear HB; have HB := n0_; have BK225 := n1_; have GW225 := n2_; have GE225 := n3_; clear n0_ n1_ n2_ n3_; clear hb hbox hg; have hcz15_0 : w14.cell? ⟨gb225, 0, none⟩ = some (.int .i64 a1_0) := (blk_cell BK225.out 0).trans rfl; have hcz15_1 : w14.cell? ⟨gb225, 1, none⟩ = some (.slice A1_1 l1_1.length c1_1) := (blk_cell BK225.out 1).trans rfl; have hcz15_2 : w14.cell? ⟨gb225, 2, none⟩ = some (.slice A1_2 l1_2.length c1_2) := (blk_cell BK225.out 2).trans rfl; have hcz15_3 : w14.cell? ⟨gb225, 3, none⟩ = some (.slice A1_3 l1_3.length c1_3) := (blk_cell BK225.out 3).trans rfl; have hcz15_4 : w14.cell? ⟨gb225, 4, none⟩ = some (.slice A1_4 l1_4.length c1_4) := (blk_cell BK225.out 4).trans rfl; have hcz15_5 : w14.cell? ⟨gb225, 5, none⟩ = some (.slice A1_5 l1_5.length c1_5) := (blk_cell BK225.out 5).trans rfl; have hfz15_0 := blk_frozen BK225.out 0; have hfz15_1 := blk_frozen BK225.out 1; have hfz15_2 := blk_frozen BK225.out 2; have hfz15_3 := blk_frozen BK225.out 3; have hfz15_4 := blk_frozen BK225.out 4; have hfz15_5 := blk_frozen BK225.out 5) | (go_at_call 14; (with_reducible refine (slabvaultlaw12_great.calls k a1_0 _ _ l1_1 _ _ l1_2 _ _ l1_3 _ _ l1_4 _ _ l1_5 false _ ?side1 ?side2 ?side3 ?side4 ?side5 ?side6 ?side7 ?side8 ?side9 ?side10 A3.out).mono ?_); (case side1 => repeat (first | exact (Kd.C_below HR1_1.out HB.out) | (with_reducible refine Kd.C_alloc ?_ _) | (with_reducible refine Kd.C_drewN ?_ _) | (with_reducible refine Kd.C_drew ?_))); (case side2 => exact HC1_1.out); (case side3 => repeat (first | exact (Kd.C_below HR1_2.out HB.out) | (with_reducible refine Kd.C_alloc ?_ _) | (with_reducible refine Kd.C_drewN ?_ _) | (with_reducible refine Kd.C_drew ?_))); (case side4 => exact HC1_2.out); (case side5 => repeat (first | exact (Kd.C_below HR1_3.out HB.out) | (with_reducible refine Kd.C_alloc ?_ _) | (with_reducible refine Kd.C_drewN ?_ _) | (with_reducible refine Kd.C_drew ?_))); (case side6 => exact HC1_3.out); (case side7 => repeat (first | exact (Kd.C_below HR1_4.out HB.out) | (with_reducible refine Kd.C_alloc ?_ _) | (with_reducible refine Kd.C_drewN ?_ _) | (with_reducible refine Kd.C_drew ?_))); (case side8 => exact HC1_4.out); (case side9 => repeat (first | exact (Kd.C_below HR1_5.out HB.out) | (with_reducible refine Kd.C_alloc ?_ _) | (with_reducible refine Kd.C_drewN ?_ _) | (with_reducible refine Kd.C_drew ?_))); (case side10 => exact HC1_5.out); rintro e w16 ⟨rfl, hb⟩; have n0_ := Aside0.mk (blk_below (g := gb225) (o := .cells #[.int .i64 a1_0, .slice A1_1 l1_1.length c1_1, .slice A1_2 l1_2.length c1_2, .slice A1_3 l1_3.length c1_3, .slice A1_4 l1_4.length c1_4, .slice A1_5 l1_5.length c1_5] 33 (0, 0)) (by (with_reducible repeat (first | refine blk_drewN ?_ _ | refine blk_drew ?_ | refine blk_alloc ?_ _)); exact BK225.out) hb); have n1_ := Aside0.mk (below_step (by repeat (first | (with_reducible first | exact HB.out | apply below_alloc | apply pw_below_drewN | apply below_drew1 | refine below_set ?_ GE225.out) | exact HB.out)) hb); clear BK225; clear HB; have BK225 := n0_; have HB := n1_; clear n0_ n1_; (try clear hb); (try clear hb2); (try clear hk); (try clear hi)) | (go_at_call 11; (with_reducible refine (space_Elements.calls _ _ l0 t228 t229 _ ?side1 ?side2 A10.out).mono ?_); (case side1 => repeat (first | exact (Kd.C_below HR0.out HB.out) | (with_reducible refine Kd.C_alloc ?_ _) | (with_reducible refine Kd.C_drewN ?_ _) | (with_reducible refine Kd.C_drew ?_))); (case side2 => exact HC0.out); rintro e w' ⟨rfl, ⟨nd, rfl⟩⟩; (try first | exact ⟨rfl, _, World.drewN_drewN _ _ _⟩ | exact ⟨rfl, _, Eq.trans (World.drewN_drewN _ _ _) (congrArg (World.drewN _) (Nat.add_assoc _ _ _))⟩); have hcz17_0 : w16.cell? ⟨gb225, 0, none⟩ = some (.int .i64 a1_0) := (blk_cell BK225.out 0).trans rfl; have hcz17_1 : w16.cell? ⟨gb225, 1, none⟩ = some (.slice A1_1 l1_1.length c1_1) := (blk_cell BK225.out 1).trans rfl; have hcz17_2 : w16.cell? ⟨gb225, 2, none⟩ = some (.slice A1_2 l1_2.length c1_2) := (blk_cell BK225.out 2).trans rfl; have hcz17_3 : w16.cell? ⟨gb225, 3, none⟩ = some (.slice A1_3 l1_3.length c1_3) := (blk_cell BK225.out 3).trans rfl; have hcz17_4 : w16.cell? ⟨gb225, 4, none⟩ = some (.slice A1_4 l1_4.length c1_4) := (blk_cell BK225.out 4).trans rfl; have hcz17_5 : w16.cell? ⟨gb225, 5, none⟩ = some (.slice A1_5 l1_5.length c1_5) := (blk_cell BK225.out 5).trans rfl; have hfz17_0 := blk_frozen BK225.out 0; have hfz17_1 := blk_frozen BK225.out 1; have hfz17_2 := blk_frozen BK225.out 2; have hfz17_3 := blk_frozen BK225.out 3; have hfz17_4 := blk_frozen BK225.out 4; have hfz17_5 := blk_frozen BK225.out 5) | (go_at_call 22; (with_reducible refine (space_Tuples.calls k _ _ l0 a1_0 _ _ l1_1 _ _ l1_2 _ _ l1_3 _ _ l1_4 _ _ l1_5 t230 t233 _ ?side1 ?side2 ?side3 ?side4 ?side5 ?side6 ?side7 ?side8 ?side9 ?side10 ?side11 ?side12 A11.out).mono ?_); (case side1 => repeat (first | exact (Kd.C_below HR0.out (by repeat (first | (with_reducible first | exact HB.out | apply below_alloc | apply pw_below_drewN | apply below_drew1 | refine below_set ?_ GE225.out) | exact HB.out))) | (with_reducible refine Kd.C_alloc ?_ _) | (with_reducible refine Kd.C_drewN ?_ _) | (with_reducible refine Kd.C_drew ?_))); (case side2 => exact HC0.out); (case side3 => repeat (first | exact (Kd.C_below HR1_1.out (by repeat (first | (with_reducible first | exact HB.out | apply below_alloc | apply pw_below_drewN | apply below_drew1 | refine below_set ?_ GE225.out) | exact HB.out))) | (with_reducible refine Kd.C_alloc ?_ _) | (with_reducible refine Kd.C_drewN ?_ _) | (with_reducible refine Kd.C_drew ?_))); (case side4 => exact HC1_1.out); (case side5 => repeat (first | exact (Kd.C_below HR1_2.out (by repeat (first | (with_reducible first | exact HB.out | apply below_alloc | apply pw_below_drewN | apply below_drew1 | refine below_set ?_ GE225.out) | exact HB.out))) | (with_reducible refine Kd.C_alloc ?_ _) | (with_reducible refine Kd.C_drewN ?_ _) | (with_reducible refine Kd.C_drew ?_))); (case side6 => exact HC1_2.out); (case side7 => repeat (first | exact (Kd.C_below HR1_3.out (by repeat (first | (with_reducible first | exact HB.out | apply below_alloc | apply pw_below_drewN | apply below_drew1 | refine below_set ?_ GE225.out) | exact HB.out))) | (with_reducible refine Kd.C_alloc ?_ _) | (with_reducible refine Kd.C_drewN ?_ _) | (with_reducible refine Kd.C_drew ?_))); (case side8 => exact HC1_3.out); (case side9 => repeat (first | exact (Kd.C_below HR1_4.out (by repeat (first | (with_reducible first | exact HB.out | apply below_alloc | apply pw_below_drewN | apply below_drew1 | refine below_set ?_ GE225.out) | exact HB.out))) | (with_reducible refine Kd.C_alloc ?_ _) | (with_reducible refine Kd.C_drewN ?_ _) | (with_reducible refine Kd.C_drew ?_))); (case side10 => exact HC1_4.out); (case side11 => repeat (first | exact (Kd.C_below HR1_5.out (by repeat (first | (with_reducible first | exact HB.out | apply below_alloc | apply pw_below_drewN | apply below_drew1 | refine below_set ?_ GE225.out) | exact HB.out))) | (with_reducible refine Kd.C_alloc ?_ _) | (with_reducible refine Kd.C_drewN ?_ _) | (with_reducible refine Kd.C_drew ?_))); (case side12 => exact HC1_5.out); rintro e w18 ⟨v231, rfl, ho0, hb⟩; have n0_ := Aside0.mk (Kd.S_lower ho0 (below_size (by repeat (first | (with_reducible first | exact HB.out | apply below_alloc | apply pw_below_drewN | apply below_drew1 | refine below_set ?_ GE225.out) | exact HB.out)))); have n1_ := Aside0.mk (blk_below (g := gb225) (o := .cells #[.int .i64 a1_0, .slice A1_1 l1_1.length c1_1, .slice A1_2 l1_2.length c1_2, .slice A1_3 l1_3.length c1_3, .slice A1_4 l1_4.length c1_4, .slice A1_5 l1_5.length c1_5] 33 (0, 0)) (by (with_reducible repeat (first | refine blk_drewN ?_ _ | refine blk_drew ?_ | refine blk_alloc ?_ _)); exact BK225.out) hb); have n2_ := Aside0.mk (below_step (by repeat (first | (with_reducible first | exact HB.out | apply below_alloc | apply pw_below_drewN | apply below_drew1 | refine below_set ?_ GE225.out) | exact HB.out)) hb); clear BK225; clear HB; have HO232 := n0_; have BK225 := n1_; have HB := n2_; clear n0_ n1_ n2_; (try clear hb); (try clear hb2); (try clear hk); (try clear hi); (try clear ho0); have hcz19_0 : w18.cell? ⟨gb225, 0, none⟩ = some (.int .i64 a1_0) := (blk_cell BK225.out 0).trans rfl; have hcz19_1 : w18.cell? ⟨gb225, 1, none⟩ = some (.slice A1_1 l1_1.length c1_1) := (blk_cell BK225.out 1).trans rfl; have hcz19_2 : w18.cell? ⟨gb225, 2, none⟩ = some (.slice A1_2 l1_2.length c1_2) := (blk_cell BK225.out 2).trans rfl; have hcz19_3 : w18.cell? ⟨gb225, 3, none⟩ = some (.slice A1_3 l1_3.length c1_3) := (blk_cell BK225.out 3).trans rfl; have hcz19_4 : w18.cell? ⟨gb225, 4, none⟩ = some (.slice A1_4 l1_4.length c1_4) := (blk_cell BK225.out 4).trans rfl; have hcz19_5 : w18.cell? ⟨gb225, 5, none⟩ = some (.slice A1_5 l1_5.length c1_5) := (blk_cell BK225.out 5).trans rfl; have hfz19_0 := blk_frozen BK225.out 0; have hfz19_1 := blk_frozen BK225.out 1; have hfz19_2 := blk_frozen BK225.out 2; have hfz19_3 := blk_frozen BK225.out 3; have hfz19_4 := blk_frozen BK225.out 4; have hfz19_5 := blk_frozen BK225.out 5) | (go_at_call 15; (with_reducible refine (space_Places.calls k _ _ l0 a1_0 _ _ l1_1 _ _ l1_2 _ _ l1_3 _ _ l1_4 _ _ l1_5 t234 t237 _ ?side1 ?side2 ?side3 ?side4 ?side5 ?side6 ?side7 ?side8 ?side9 ?side10 ?side11 ?side12 A12.out).mono ?_); (case side1 => repeat (first | exact (Kd.C_below HR0.out HB.out) | (with_reducible refine Kd.C_alloc ?_ _) | (with_reducible refine Kd.C_drewN ?_ _) | (with_reducible refine Kd.C_drew ?_))); (case side2 => exact HC0.out); (case side3 => repeat (first | exact (Kd.C_below HR1_1.out HB.out) | (with_reducible refine Kd.C_alloc ?_ _) | (with_reducible refine Kd.C_drewN ?_ _) | (with_reducible refine Kd.C_drew ?_))); (case side4 => exact HC1_1.out); (case side5 => repeat (first | exact (Kd.C_below HR1_2.out HB.out) | (with_reducible refine Kd.C_alloc ?_ _) | (with_reducible refine Kd.C_drewN ?_ _) | (with_reducible refine Kd.C_drew ?_))); (case side6 => exact HC1_2.out); (case side7 => repeat (first | exact (Kd.C_below HR1_3.out HB.out) | (with_reducible refine Kd.C_alloc ?_ _) | (with_reducible refine Kd.C_drewN ?_ _) | (with_reducible refine Kd.C_drew ?_))); (case side8 => exact HC1_3.out); (case side9 => repeat (first | exact (Kd.C_below HR1_4.out HB.out) | (with_reducible refine Kd.C_alloc ?_ _) | (with_reducible refine Kd.C_drewN ?_ _) | (with_reducible refine Kd.C_drew ?_))); (case side10 => exact HC1_4.out); (case side11 => repeat (first | exact (Kd.C_below HR1_5.out HB.out) | (with_reducible refine Kd.C_alloc ?_ _) | (with_reducible refine Kd.C_drewN ?_ _) | (with_reducible refine Kd.C_drew ?_))); (case side12 => exact HC1_5.out); rintro e w20 ⟨v235, rfl, ho0, hb⟩; have n0_ := Aside0.mk (Kd.S_elder' (by (with_reducible repeat (first | apply Kd.S_alloc | apply Kd.S_drewN | apply Kd.S_drew)); exact HO232.out) (Kd.R_base ho0) hb); have n1_ := Aside0.mk (Kd.R_lower ho0 (below_size (by repeat (first | (with_reducible first | exact HB.out | apply below_alloc | apply pw_below_drewN | apply below_drew1 | refine below_set ?_ GE225.out) | exact HB.out)))); have n2_ := Aside0.mk (blk_below (g := gb225) (o := .cells #[.int .i64 a1_0, .slice A1_1 l1_1.length c1_1, .slice A1_2 l1_2.length c1_2, .slice A1_3 l1_3.length c1_3, .slice A1_4 l1_4.length c1_4, .slice A1_5 l1_5.length c1_5] 33 (0, 0)) (by (with_reducible repeat (first | refine blk_drewN ?_ _ | refine blk_drew ?_ | refine blk_alloc ?_ _)); exact BK225.out) hb); have n3_ := Aside0.mk (below_step (by repeat (first | (with_reducible first | exact HB.out | apply below_alloc | apply pw_below_drewN | apply below_drew1 | refine below_set ?_ GE225.out) | exact HB.out)) hb); clear HO232; clear BK225; clear HB; have HO232 := n0_; have HO236 := n1_; have BK225 := n2_; have HB := n3_; clear n0_ n1_ n2_ n3_; (try clear hb); (try clear hb2); (try clear hk); (try clear hi); (try clear ho0))); go_upto_region 6 with (first | ((with_reducible refine gate_dst (N := 3) rfl ?_); (try (refine gate_guard (by rfl) ?_; dsimp only)); refine box_event ?hg (N := 3) ?hd (cs := #[.int .i64 a1_0, .slice A1_1 l1_1.length c1_1, .slice A1_2 l1_2.length c1_2, .slice A1_3 l1_3.length c1_3, .slice A1_4 l1_4.length c1_4, .slice A1_5 l1_5.length c1_5]) (t := 33) ?hr ?_; (case hd => rfl); (case hg => rfl); (case hr => first | (go_simp; done) | (go_simp; rfl)); intro gb225 hg w14 hbox hb; have n0_ := Aside0.mk (below_step (by repeat (first | (with_reducible first | exact HB.out | apply below_alloc | apply pw_below_drewN | apply below_drew1) | exact HB.out)) hb); have n1_ := Aside0.mk (hbox); have n2_ := Aside0.mk ((by rw [hg]; exact (below_size (by repeat (first | (with_reducible first | exact HB.out | apply below_alloc | apply pw_below_drewN | apply below_drew1) | exact HB.out))) : w.heap.size ≤ gb225)); have n3_ := Aside0.mk ((by rw [hg]; exact (below_size (by repeat (first | (with_reducible first | exact HB.out | apply below_alloc | apply pw_below_drewN | apply below_drew1) | exact HB.out))) : w.heap.size ≤ gb225)); clear HB; have HB := n0_; have BK225 := n1_; have GW225 := n2_; have GE225 := n3_; clear n0_ n1_ n2_ n3_; clear hb hbox hg; have hcz15_0 : w14.cell? ⟨gb225, 0, none⟩ = some (.int .i64 a1_0) := (blk_cell BK225.out 0).trans rfl; have hcz15_1 : w14.cell? ⟨gb225, 1, none⟩ = some (.slice A1_1 l1_1.length c1_1) := (blk_cell BK225.out 1).trans rfl; have hcz15_2 : w14.cell? ⟨gb225, 2, none⟩ = some (.slice A1_2 l1_2.length c1_2) := (blk_cell BK225.out 2).trans rfl; have hcz15_3 : w14.cell? ⟨gb225, 3, none⟩ = some (.slice A1_3 l1_3.length c1_3) := (blk_cell BK225.out 3).trans rfl; have hcz15_4 : w14.cell? ⟨gb225, 4, none⟩ = some (.slice A1_4 l1_4.length c1_4) := (blk_cell BK225.out 4).trans rfl; have hcz15_5 : w14.cell? ⟨gb225, 5, none⟩ = some (.slice A1_5 l1_5.length c1_5) := (blk_cell BK225.out 5).trans rfl; have hfz15_0 := blk_frozen BK225.out 0; have hfz15_1 := blk_frozen BK225.out 1; have hfz15_2 := blk_frozen BK225.out 2; have hfz15_3 := blk_frozen BK225.out 3; have hfz15_4 := blk_frozen BK225.out 4; have hfz15_5 := blk_frozen BK225.out 5) | (go_at_call 14; (with_reducible refine (slabvaultlaw12_great.calls k a1_0 _ _ l1_1 _ _ l1_2 _ _ l1_3 _ _ l1_4 _ _ l1_5 false _ ?side1 ?side2 ?side3 ?side4 ?side5 ?side6 ?side7 ?side8 ?side9 ?side10 A3.out).mono ?_); (case side1 => repeat (first | exact (Kd.C_below HR1_1.out HB.out) | (with_reducible refine Kd.C_alloc ?_ _) | (with_reducible refine Kd.C_drewN ?_ _) | (with_reducible refine Kd.C_drew ?_))); (case side2 => exact HC1_1.out); (case side3 => repeat (first | exact (Kd.C_below HR1_2.out HB.out) | (with_reducible refine Kd.C_alloc ?_ _) | (with_reducible refine Kd.C_drewN ?_ _) | (with_reducible refine Kd.C_drew ?_))); (case side4 => exact HC1_2.out); (case side5 => repeat (first | exact (Kd.C_below HR1_3.out HB.out) | (with_reducible refine Kd.C_alloc ?_ _) | (with_reducible refine Kd.C_drewN ?_ _) | (with_reducible refine Kd.C_drew ?_))); (case side6 => exact HC1_3.out); (case side7 => repeat (first | exact (Kd.C_below HR1_4.out HB.out) | (with_reducible refine Kd.C_alloc ?_ _) | (with_reducible refine Kd.C_drewN ?_ _) | (with_reducible refine Kd.C_drew ?_))); (case side8 => exact HC1_4.out); (case side9 => repeat (first | exact (Kd.C_below HR1_5.out HB.out) | (with_reducible refine Kd.C_alloc ?_ _) | (with_reducible refine Kd.C_drewN ?_ _) | (with_reducible refine Kd.C_drew ?_))); (case side10 => exact HC1_5.out); rintro e w16 ⟨rfl, hb⟩; have n0_ := Aside0.mk (blk_below (g := gb225) (o := .cells #[.int .i64 a1_0, .slice A1_1 l1_1.length c1_1, .slice A1_2 l1_2.length c1_2, .slice A1_3 l1_3.length c1_3, .slice A1_4 l1_4.length c1_4, .slice A1_5 l1_5.length c1_5] 33 (0, 0)) (by (with_reducible repeat (first | refine blk_drewN ?_ _ | refine blk_drew ?_ | refine blk_alloc ?_ _)); exact BK225.out) hb); have n1_ := Aside0.mk (below_step (by repeat (first | (with_reducible first | exact HB.out | apply below_alloc | apply pw_below_drewN | apply below_drew1 | refine below_set ?_ GE225.out) | exact HB.out)) hb); clear BK225; clear HB; have BK225 := n0_; have HB := n1_; clear n0_ n1_; (try clear hb); (try clear hb2); (try clear hk); (try clear hi)) | (go_at_call 11; (with_reducible refine (space_Elements.calls _ _ l0 t228 t229 _ ?side1 ?side2 A10.out).mono ?_); (case side1 => repeat (first | exact (Kd.C_below HR0.out HB.out) | (with_reducible refine Kd.C_alloc ?_ _) | (with_reducible refine Kd.C_drewN ?_ _) | (with_reducible refine Kd.C_drew ?_))); (case side2 => exact HC0.out); rintro e w' ⟨rfl, ⟨nd, rfl⟩⟩; (try first | exact ⟨rfl, _, World.drewN_drewN _ _ _⟩ | exact ⟨rfl, _, Eq.trans (World.drewN_drewN _ _ _) (congrArg (World.drewN _) (Nat.add_assoc _ _ _))⟩); have hcz17_0 : w16.cell? ⟨gb225, 0, none⟩ = some (.int .i64 a1_0) := (blk_cell BK225.out 0).trans rfl; have hcz17_1 : w16.cell? ⟨gb225, 1, none⟩ = some (.slice A1_1 l1_1.length c1_1) := (blk_cell BK225.out 1).trans rfl; have hcz17_2 : w16.cell? ⟨gb225, 2, none⟩ = some (.slice A1_2 l1_2.length c1_2) := (blk_cell BK225.out 2).trans rfl; have hcz17_3 : w16.cell? ⟨gb225, 3, none⟩ = some (.slice A1_3 l1_3.length c1_3) := (blk_cell BK225.out 3).trans rfl; have hcz17_4 : w16.cell? ⟨gb225, 4, none⟩ = some (.slice A1_4 l1_4.length c1_4) := (blk_cell BK225.out 4).trans rfl; have hcz17_5 : w16.cell? ⟨gb225, 5, none⟩ = some (.slice A1_5 l1_5.length c1_5) := (blk_cell BK225.out 5).trans rfl; have hfz17_0 := blk_frozen BK225.out 0; have hfz17_1 := blk_frozen BK225.out 1; have hfz17_2 := blk_frozen BK225.out 2; have hfz17_3 := blk_frozen BK225.out 3; have hfz17_4 := blk_frozen BK225.out 4; have hfz17_5 := blk_frozen BK225.out 5) | (go_at_call 22; (with_reducible refine (space_Tuples.calls k _ _ l0 a1_0 _ _ l1_1 _ _ l1_2 _ _ l1_3 _ _ l1_4 _ _ l1_5 t230 t233 _ ?side1 ?side2 ?side3 ?side4 ?side5 ?side6 ?side7 ?side8 ?side9 ?side10 ?side11 ?side12 A11.out).mono ?_); (case side1 => repeat (first | exact (Kd.C_below HR0.out (by repeat (first | (with_reducible first | exact HB.out | apply below_alloc | apply pw_below_drewN | apply below_drew1 | refine below_set ?_ GE225.out) | exact HB.out))) | (with_reducible refine Kd.C_alloc ?_ _) | (with_reducible refine Kd.C_drewN ?_ _) | (with_reducible refine Kd.C_drew ?_))); (case side2 => exact HC0.out); (case side3 => repeat (first | exact (Kd.C_below HR1_1.out (by repeat (first | (with_reducible first | exact HB.out | apply below_alloc | apply pw_below_drewN | apply below_drew1 | refine below_set ?_ GE225.out) | exact HB.out))) | (with_reducible refine Kd.C_alloc ?_ _) | (with_reducible refine Kd.C_drewN ?_ _) | (with_reducible refine Kd.C_drew ?_))); (case side4 => exact HC1_1.out); (case side5 => repeat (first | exact (Kd.C_below HR1_2.out (by repeat (first | (with_reducible first | exact HB.out | apply below_alloc | apply pw_below_drewN | apply below_drew1 | refine below_set ?_ GE225.out) | exact HB.out))) | (with_reducible refine Kd.C_alloc ?_ _) | (with_reducible refine Kd.C_drewN ?_ _) | (with_reducible refine Kd.C_drew ?_))); (case side6 => exact HC1_2.out); (case side7 => repeat (first | exact (Kd.C_below HR1_3.out (by repeat (first | (with_reducible first | exact HB.out | apply below_alloc | apply pw_below_drewN | apply below_drew1 | refine below_set ?_ GE225.out) | exact HB.out))) | (with_reducible refine Kd.C_alloc ?_ _) | (with_reducible refine Kd.C_drewN ?_ _) | (with_reducible refine Kd.C_drew ?_))); (case side8 => exact HC1_3.out); (case side9 => repeat (first | exact (Kd.C_below HR1_4.out (by repeat (first | (with_reducible first | exact HB.out | apply below_alloc | apply pw_below_drewN | apply below_drew1 | refine below_set ?_ GE225.out) | exact HB.out))) | (with_reducible refine Kd.C_alloc ?_ _) | (with_reducible refine Kd.C_drewN ?_ _) | (with_reducible refine Kd.C_drew ?_))); (case side10 => exact HC1_4.out); (case side11 => repeat (first | exact (Kd.C_below HR1_5.out (by repeat (first | (with_reducible first | exact HB.out | apply below_alloc | apply pw_below_drewN | apply below_drew1 | refine below_set ?_ GE225.out) | exact HB.out))) | (with_reducible refine Kd.C_alloc ?_ _) | (with_reducible refine Kd.C_drewN ?_ _) | (with_reducible refine Kd.C_drew ?_))); (case side12 => exact HC1_5.out); rintro e w18 ⟨v231, rfl, ho0, hb⟩; have n0_ := Aside0.mk (Kd.S_lower ho0 (below_size (by repeat (first | (with_reducible first | exact HB.out | apply below_alloc | apply pw_below_drewN | apply below_drew1 | refine below_set ?_ GE225.out) | exact HB.out)))); have n1_ := Aside0.mk (blk_below (g := gb225) (o := .cells #[.int .i64 a1_0, .slice A1_1 l1_1.length c1_1, .slice A1_2 l1_2.length c1_2, .slice A1_3 l1_3.length c1_3, .slice A1_4 l1_4.length c1_4, .slice A1_5 l1_5.length c1_5] 33 (0, 0)) (by (with_reducible repeat (first | refine blk_drewN ?_ _ | refine blk_drew ?_ | refine blk_alloc ?_ _)); exact BK225.out) hb); have n2_ := Aside0.mk (below_step (by repeat (first | (with_reducible first | exact HB.out | apply below_alloc | apply pw_below_drewN | apply below_drew1 | refine below_set ?_ GE225.out) | exact HB.out)) hb); clear BK225; clear HB; have HO232 := n0_; have BK225 := n1_; have HB := n2_; clear n0_ n1_ n2_; (try clear hb); (try clear hb2); (try clear hk); (try clear hi); (try clear ho0); have hcz19_0 : w18.cell? ⟨gb225, 0, none⟩ = some (.int .i64 a1_0) := (blk_cell BK225.out 0).trans rfl; have hcz19_1 : w18.cell? ⟨gb225, 1, none⟩ = some (.slice A1_1 l1_1.length c1_1) := (blk_cell BK225.out 1).trans rfl; have hcz19_2 : w18.cell? ⟨gb225, 2, none⟩ = some (.slice A1_2 l1_2.length c1_2) := (blk_cell BK225.out 2).trans rfl; have hcz19_3 : w18.cell? ⟨gb225, 3, none⟩ = some (.slice A1_3 l1_3.length c1_3) := (blk_cell BK225.out 3).trans rfl; have hcz19_4 : w18.cell? ⟨gb225, 4, none⟩ = some (.slice A1_4 l1_4.length c1_4) := (blk_cell BK225.out 4).trans rfl; have hcz19_5 : w18.cell? ⟨gb225, 5, none⟩ = some (.slice A1_5 l1_5.length c1_5) := (blk_cell BK225.out 5).trans rfl; have hfz19_0 := blk_frozen BK225.out 0; have hfz19_1 := blk_frozen BK225.out 1; have hfz19_2 := blk_frozen BK225.out 2; have hfz19_3 := blk_frozen BK225.out 3; have hfz19_4 := blk_frozen BK225.out 4; have hfz19_5 := blk_frozen BK225.out 5) | (go_at_call 15; (with_reducible refine (space_Places.calls k _ _ l0 a1_0 _ _ l1_1 _ _ l1_2 _ _ l1_3 _ _ l1_4 _ _ l1_5 t234 t237 _ ?side1 ?side2 ?side3 ?side4 ?side5 ?side6 ?side7 ?side8 ?side9 ?side10 ?side11 ?side12 A12.out).mono ?_); (case side1 => repeat (first | exact (Kd.C_below HR0.out HB.out) | (with_reducible refine Kd.C_alloc ?_ _) | (with_reducible refine Kd.C_drewN ?_ _) | (with_reducible refine Kd.C_drew ?_))); (case side2 => exact HC0.out); (case side3 => repeat (first | exact (Kd.C_below HR1_1.out HB.out) | (with_reducible refine Kd.C_alloc ?_ _) | (with_reducible refine Kd.C_drewN ?_ _) | (with_reducible refine Kd.C_drew ?_))); (case side4 => exact HC1_1.out); (case side5 => repeat (first | exact (Kd.C_below HR1_2.out HB.out) | (with_reducible refine Kd.C_alloc ?_ _) | (with_reducible refine Kd.C_drewN ?_ _) | (with_reducible refine Kd.C_drew ?_))); (case side6 => exact HC1_2.out); (case side7 => repeat (first | exact (Kd.C_below HR1_3.out HB.out) | (with_reducible refine Kd.C_alloc ?_ _) | (with_reducible refine Kd.C_drewN ?_ _) | (with_reducible refine Kd.C_drew ?_))); (case side8 => exact HC1_3.out); (case side9 => repeat (first | exact (Kd.C_below HR1_4.out HB.out) | (with_reducible refine Kd.C_alloc ?_ _) | (with_reducible refine Kd.C_drewN ?_ _) | (with_reducible refine Kd.C_drew ?_))); (case side10 => exact HC1_4.out); (case side11 => repeat (first | exact (Kd.C_below HR1_5.out HB.out) | (with_reducible refine Kd.C_alloc ?_ _) | (with_reducible refine Kd.C_drewN ?_ _) | (with_reducible refine Kd.C_drew ?_))); (case side12 => exact HC1_5.out); rintro e w20 ⟨v235, rfl, ho0, hb⟩; have n0_ := Aside0.mk (Kd.S_elder' (by (with_reducible repeat (first | apply Kd.S_alloc | apply Kd.S_drewN | apply Kd.S_drew)); exact HO232.out) (Kd.R_base ho0) hb); have n1_ := Aside0.mk (Kd.R_lower ho0 (below_size (by repeat (first | (with_reducible first | exact HB.out | apply below_alloc | apply pw_below_drewN | apply below_drew1 | refine below_set ?_ GE225.out) | exact HB.out)))); have n2_ := Aside0.mk (blk_below (g := gb225) (o := .cells #[.int .i64 a1_0, .slice A1_1 l1_1.length c1_1, .slice A1_2 l1_2.length c1_2, .slice A1_3 l1_3.length c1_3, .slice A1_4 l1_4.length c1_4, .slice A1_5 l1_5.length c1_5] 33 (0, 0)) (by (with_reducible repeat (first | refine blk_drewN ?_ _ | refine blk_drew ?_ | refine blk_alloc ?_ _)); exact BK225.out) hb); have n3_ := Aside0.mk (below_step (by repeat (first | (with_reducible first | exact HB.out | apply below_alloc | apply pw_below_drewN | apply below_drew1 | refine below_set ?_ GE225.out) | exact HB.out)) hb); clear HO232; clear BK225; clear HB; have HO232 := n0_; have HO236 := n1_; have BK225 := n2_; have HB := n3_; clear n0_ n1_ n2_ n3_; (try clear hb); (try clear hb2); (try clear hk); (try clear hi); (try clear ho0))))
    (try simp only [Act.put, List.setIfInBounds_toArray, List.set_cons_zero, List.set_cons_succ])
    go_cut [43] (fun v43 wc => ∃ (kq : Nat) (x43_12 : Bool), v43 = .bool x43_12 ∧ Aside0 (slabvaultlaw12_SpaceInside.j0 kq l0 t228 t229 t230 t233 t234 x43_12 = some r) ∧ Aside0 (kq ≤ k) ∧ Aside0 (Kd.S (Kd.slice 3 (Kd.int .i64)) 22 wc w.heap.size (fun k_ => some k_ ≠ (v235 : Value).ownBlock) v231 t230) ∧ Aside0 (Kd.R (Kd.int .i64) 3 wc w.heap.size (fun _ => True) v235 t234) ∧ Aside0 (wc.heap[gb225]? = some (.cells #[.int .i64 a1_0, (.slice A1_1 l1_1.length c1_1), (.slice A1_2 l1_2.length c1_2), (.slice A1_3 l1_3.length c1_3), (.slice A1_4 l1_4.length c1_4), (.slice A1_5 l1_5.length c1_5)] 33 (0, 0))) ∧ Aside0 (Below w.heap.size w wc))
    case first =>
      have H := HC13.out
      clear HC13
      by_cases c21 : t233 = t237
      · rw [if_pos c21] at H
        have c21b0 : (t233 == t237) = true := beq_iff_eq.mpr c21
        have c21b1 : (t233 != t237) = false := bne_eq_false_iff_eq.mpr c21
        clear c21
        (first | rw [c21b0] | (simp only [i64_w, i32_w]; rw [c21b0]) | skip)
        have H' := Aside0.mk H
        clear H
        obtain ⟨Ao22, co22, eo22⟩ := Kd.S_slice HO232.out
        subst eo22
        obtain ⟨Ao23, co23, eo23⟩ := Kd.R_slice HO236.out
        subst eo23
        go_wp2
        repeat (go_quiet (fail); try go_wp2)
        go_meet
        case rel => exact ⟨_, (((t230.length : Int) != (t234.length : Int))), (by first | rfl | (simp; done) | (simp [*]; done)), H', ⟨by first | omega | exact Nat.le_refl _⟩, ⟨by (with_reducible repeat (first | apply Kd.S_alloc | apply Kd.S_drewN | apply Kd.S_drew)); exact Kd.S_mono HO232.out (fun _ hk => hk.2)⟩, ⟨by (with_reducible repeat (first | apply Kd.R_alloc | apply Kd.R_drewN | apply Kd.R_drew)); exact HO236.out⟩, ⟨by (with_reducible repeat (first | refine blk_drewN ?_ _ | refine blk_drew ?_ | refine blk_alloc ?_ _)); exact BK225.out⟩, ⟨by repeat (first | (with_reducible first | exact HB.out | apply below_alloc | apply pw_below_drewN | apply below_drew1 | refine below_set ?_ GE225.out) | exact HB.out)⟩⟩
      · rw [if_neg c21] at H
        have c21b0 : (t233 == t237) = false := beq_eq_false_iff_ne.mpr c21
        have c21b1 : (t233 != t237) = true := bne_iff_ne.mpr c21
        (first | rw [c21b0] | (simp only [i64_w, i32_w]; rw [c21b0]) | skip)
        have H' := Aside0.mk H
        clear H
        go_wp2
        repeat (go_quiet (fail); try go_wp2)
        go_meet
        case rel => exact ⟨_, (true), (by first | rfl | (simp; done) | (simp [*]; done)), H', ⟨by first | omega | exact Nat.le_refl _⟩, ⟨by (with_reducible repeat (first | apply Kd.S_alloc | apply Kd.S_drewN | apply Kd.S_drew)); exact Kd.S_mono HO232.out (fun _ hk => hk.2)⟩, ⟨by (with_reducible repeat (first | apply Kd.R_alloc | apply Kd.R_drewN | apply Kd.R_drew)); exact HO236.out⟩, ⟨by (with_reducible repeat (first | refine blk_drewN ?_ _ | refine blk_drew ?_ | refine blk_alloc ?_ _)); exact BK225.out⟩, ⟨by repeat (first | (with_reducible first | exact HB.out | apply below_alloc | apply pw_below_drewN | apply below_drew1 | refine below_set ?_ GE225.out) | exact HB.out)⟩⟩
    case rest =>
      clear HC13
      try clear c1
      try clear c2
      try clear p2
      try clear c4
      try clear c10
      try clear c21
      try clear c21b0
      try clear c21b1
      try clear hcz15_0
      try clear hcz15_1
      try clear hcz15_2
      try clear hcz15_3
      try clear hcz15_4
      try clear hcz15_5
      try clear hcz17_0
      try clear hcz17_1
      try clear hcz17_2
      try clear hcz17_3
      try clear hcz17_4
      try clear hcz17_5
      try clear hcz19_0
      try clear hcz19_1
      try clear hcz19_2
      try clear hcz19_3
      try clear hcz19_4
      try clear hcz19_5
      try clear hcz7_0
      try clear hcz7_1
      try clear hcz7_2
      try clear hcz7_3
      try clear hcz7_4
      try clear hcz7_5
      try clear hfz15_0
      try clear hfz15_1
      try clear hfz15_2
      try clear hfz15_3
      try clear hfz15_4
      try clear hfz15_5
      try clear hfz17_0
      try clear hfz17_1
      try clear hfz17_2
      try clear hfz17_3
      try clear hfz17_4
      try clear hfz17_5
      try clear hfz19_0
      try clear hfz19_1
      try clear hfz19_2
      try clear hfz19_3
      try clear hfz19_4
      try clear hfz19_5
      try clear hfz7_0
      try clear hfz7_1
      try clear hfz7_2
      try clear hfz7_3
      try clear hfz7_4
      try clear hfz7_5
      obtain ⟨kq, x43_12, rfl, HA, HJ12, HO_7, HO_9, BK225, HB⟩ := hcut
      cases kq with
      | zero => exact absurd HA.out (by simp [slabvaultlaw12_SpaceInside.j0])
      | succ kj12 =>
        have H := HA.out
        clear HA
        simp only [slabvaultlaw12_SpaceInside.j0] at H
        by_cases c24 : x43_12 = true
        · subst c24
          have H1 : (some false) = some r := by rw [if_pos rfl] at H; exact H
          clear H
          have H := H1
          clear H1
          obtain rfl := Option.some.inj H
          go_wp2
          repeat (go_quiet (fail); try go_wp2)
          go_ret
          exact ⟨by first | rfl | (simp [errW_none, errW_some] <;> rfl) | (simp [*, errW_none, errW_some] <;> rfl), by repeat (first | (with_reducible first | exact HB.out | apply below_alloc | apply pw_below_drewN | apply below_drew1 | refine below_set ?_ GE225.out) | exact HB.out)⟩
        · replace c24 := Bool.eq_false_iff.mpr c24
          subst c24
          have H1 : (if t229 = 0 then (slabvaultlaw12_SpaceInside.j1 kj12 l0 t228 t229 t230 t233 t234 (t233 != 0)) else (slabvaultlaw12_SpaceInside.j1 kj12 l0 t228 t229 t230 t233 t234 true)) = some r := by rw [if_neg (show ¬ (false = true) by decide)] at H; exact H
          clear H
          have H := H1
          clear H1
          have HC25 := Aside0.mk H
          clear H
          go_upto_region 8 with (fail)
          repeat (go_quiet (fail); go_upto_region 8 with (fail))
          go_cut [49] (fun v49 wc => ∃ (kq : Nat) (x49_24 : Bool), v49 = .bool x49_24 ∧ Aside0 (slabvaultlaw12_SpaceInside.j1 kq l0 t228 t229 t230 t233 t234 x49_24 = some r) ∧ Aside0 (kq ≤ kj12) ∧ Aside0 (Kd.S (Kd.slice 3 (Kd.int .i64)) 22 wc w.heap.size (fun k_ => some k_ ≠ (v235 : Value).ownBlock) v231 t230) ∧ Aside0 (Kd.R (Kd.int .i64) 3 wc w.heap.size (fun _ => True) v235 t234) ∧ Aside0 (wc.heap[gb225]? = some (.cells #[.int .i64 a1_0, (.slice A1_1 l1_1.length c1_1), (.slice A1_2 l1_2.length c1_2), (.slice A1_3 l1_3.length c1_3), (.slice A1_4 l1_4.length c1_4), (.slice A1_5 l1_5.length c1_5)] 33 (0, 0))) ∧ Aside0 (Below w.heap.size w wc))
          case first =>
            have H := HC25.out
            clear HC25
            by_cases c26 : t229 = 0
            · rw [if_pos c26] at H
              have c26b0 : (t229 == 0) = true := beq_iff_eq.mpr c26
              have c26b1 : (t229 != 0) = false := bne_eq_false_iff_eq.mpr c26
              clear c26
              (first | rw [c26b0] | (simp only [i64_w, i32_w]; rw [c26b0]) | skip)
              have H' := Aside0.mk H
              clear H
              go_wp2
              repeat (go_quiet (fail); try go_wp2)
              go_meet
              case rel => exact ⟨_, ((t233 != 0)), (by first | rfl | (simp; done) | (simp [*]; done)), H', ⟨by have := HJ12.out; first | omega | exact Nat.le_refl _⟩, ⟨by (with_reducible repeat (first | apply Kd.S_alloc | apply Kd.S_drewN | apply Kd.S_drew)); exact HO_7.out⟩, ⟨by (with_reducible repeat (first | apply Kd.R_alloc | apply Kd.R_drewN | apply Kd.R_drew)); exact HO_9.out⟩, ⟨by (with_reducible repeat (first | refine blk_drewN ?_ _ | refine blk_drew ?_ | refine blk_alloc ?_ _)); exact BK225.out⟩, ⟨by repeat (first | (with_reducible first | exact HB.out | apply below_alloc | apply pw_below_drewN | apply below_drew1 | refine below_set ?_ GE225.out) | exact HB.out)⟩⟩
            · rw [if_neg c26] at H
              have c26b0 : (t229 == 0) = false := beq_eq_false_iff_ne.mpr c26
              have c26b1 : (t229 != 0) = true := bne_iff_ne.mpr c26
              (first | rw [c26b0] | (simp only [i64_w, i32_w]; rw [c26b0]) | skip)
              have H' := Aside0.mk H
              clear H
              go_wp2
              repeat (go_quiet (fail); try go_wp2)
              go_meet
              case rel => exact ⟨_, (true), (by first | rfl | (simp; done) | (simp [*]; done)), H', ⟨by have := HJ12.out; first | omega | exact Nat.le_refl _⟩, ⟨by (with_reducible repeat (first | apply Kd.S_alloc | apply Kd.S_drewN | apply Kd.S_drew)); exact HO_7.out⟩, ⟨by (with_reducible repeat (first | apply Kd.R_alloc | apply Kd.R_drewN | apply Kd.R_drew)); exact HO_9.out⟩, ⟨by (with_reducible repeat (first | refine blk_drewN ?_ _ | refine blk_drew ?_ | refine blk_alloc ?_ _)); exact BK225.out⟩, ⟨by repeat (first | (with_reducible first | exact HB.out | apply below_alloc | apply pw_below_drewN | apply below_drew1 | refine below_set ?_ GE225.out) | exact HB.out)⟩⟩
          case rest =>
            clear HC25
            try clear c1
            try clear c2
            try clear p2
            try clear c4
            try clear c10
            try clear c21
            try clear c21b0
            try clear c21b1
            try clear c24
            try clear c26
            try clear c26b0
            try clear c26b1
            try clear hcz15_0
            try clear hcz15_1
            try clear hcz15_2
            try clear hcz15_3
            try clear hcz15_4
            try clear hcz15_5
            try clear hcz17_0
            try clear hcz17_1
            try clear hcz17_2
            try clear hcz17_3
            try clear hcz17_4
            try clear hcz17_5
            try clear hcz19_0
            try clear hcz19_1
            try clear hcz19_2
            try clear hcz19_3
            try clear hcz19_4
            try clear hcz19_5
            try clear hcz7_0
            try clear hcz7_1
            try clear hcz7_2
            try clear hcz7_3
            try clear hcz7_4
            try clear hcz7_5
            try clear hfz15_0
            try clear hfz15_1
            try clear hfz15_2
            try clear hfz15_3
            try clear hfz15_4
            try clear hfz15_5
            try clear hfz17_0
            try clear hfz17_1
            try clear hfz17_2
            try clear hfz17_3
            try clear hfz17_4
            try clear hfz17_5
            try clear hfz19_0
            try clear hfz19_1
            try clear hfz19_2
            try clear hfz19_3
            try clear hfz19_4
            try clear hfz19_5
            try clear hfz7_0
            try clear hfz7_1
            try clear hfz7_2
            try clear hfz7_3
            try clear hfz7_4
            try clear hfz7_5
            try clear p2
            obtain ⟨kq, x49_24, rfl, HA, HJ24, HO_7, HO_9, BK225, HB⟩ := hcut
            cases kq with
            | zero => exact absurd HA.out (by simp [slabvaultlaw12_SpaceInside.j1])
            | succ kj24 =>
              have H := HA.out
              clear HA
              simp only [slabvaultlaw12_SpaceInside.j1] at H
              by_cases c27 : x49_24 = true
              · subst c27
                have H1 : (if (t230.length : Int) = 0 then (if t229 = 0 then ((slabvaultlaw12_lives.f kj24).bind fun t238 => (some t238)) else (if t233 = t229 then ((slabvaultlaw12_lives.f kj24).bind fun t239 => (some t239)) else (some false))) else (some false)) = some r := by rw [if_pos rfl] at H; exact H
                clear H
                have H := H1
                clear H1
                by_cases c28 : (t230.length : Int) = 0
                · rw [if_pos c28] at H
                  have c28b0 : ((t230.length : Int) == 0) = true := beq_iff_eq.mpr c28
                  have c28b1 : ((t230.length : Int) != 0) = false := bne_eq_false_iff_eq.mpr c28
                  clear c28
                  by_cases c29 : t229 = 0
                  · rw [if_pos c29] at H
                    have c29b0 : (t229 == 0) = true := beq_iff_eq.mpr c29
                    have c29b1 : (t229 != 0) = false := bne_eq_false_iff_eq.mpr c29
                    clear c29
                    replace H := Option.bind_eq_some_iff.mp H
                    obtain ⟨t238, A300, H⟩ := H
                    replace H : (some t238) = some r := H
                    have A30 := Aside0.mk A300
                    clear A300
                    obtain rfl := Option.some.inj H
                    obtain ⟨Ao31, co31, eo31⟩ := Kd.S_slice HO_7.out
                    subst eo31
                    go_wp2_with (first | (go_at_call 13; (with_reducible refine (slabvaultlaw12_lives.calls kj24  t238 _ A30.out).mono ?_); rintro e w32 ⟨rfl, hb⟩; have n0_ := Aside0.mk (Kd.S_below (by (with_reducible repeat (first | apply Kd.S_alloc | apply Kd.S_drewN | apply Kd.S_drew)); exact HO_7.out) hb); have n1_ := Aside0.mk (Kd.R_below (by (with_reducible repeat (first | apply Kd.R_alloc | apply Kd.R_drewN | apply Kd.R_drew)); exact HO_9.out) hb); have n2_ := Aside0.mk (blk_below (g := gb225) (o := .cells #[.int .i64 a1_0, .slice A1_1 l1_1.length c1_1, .slice A1_2 l1_2.length c1_2, .slice A1_3 l1_3.length c1_3, .slice A1_4 l1_4.length c1_4, .slice A1_5 l1_5.length c1_5] 33 (0, 0)) (by (with_reducible repeat (first | refine blk_drewN ?_ _ | refine blk_drew ?_ | refine blk_alloc ?_ _)); exact BK225.out) hb); have n3_ := Aside0.mk (below_step (by repeat (first | (with_reducible first | exact HB.out | apply below_alloc | apply pw_below_drewN | apply below_drew1 | refine below_set ?_ GE225.out) | exact HB.out)) hb); clear HO_7; clear HO_9; clear BK225; clear HB; have HO_7 := n0_; have HO_9 := n1_; have BK225 := n2_; have HB := n3_; clear n0_ n1_ n2_ n3_; (try clear hb); (try clear hb2); (try clear hk); (try clear hi)))
                    repeat (go_quiet (first | (go_at_call 13; (with_reducible refine (slabvaultlaw12_lives.calls kj24  t238 _ A30.out).mono ?_); rintro e w32 ⟨rfl, hb⟩; have n0_ := Aside0.mk (Kd.S_below (by (with_reducible repeat (first | apply Kd.S_alloc | apply Kd.S_drewN | apply Kd.S_drew)); exact HO_7.out) hb); have n1_ := Aside0.mk (Kd.R_below (by (with_reducible repeat (first | apply Kd.R_alloc | apply Kd.R_drewN | apply Kd.R_drew)); exact HO_9.out) hb); have n2_ := Aside0.mk (blk_below (g := gb225) (o := .cells #[.int .i64 a1_0, .slice A1_1 l1_1.length c1_1, .slice A1_2 l1_2.length c1_2, .slice A1_3 l1_3.length c1_3, .slice A1_4 l1_4.length c1_4, .slice A1_5 l1_5.length c1_5] 33 (0, 0)) (by (with_reducible repeat (first | refine blk_drewN ?_ _ | refine blk_drew ?_ | refine blk_alloc ?_ _)); exact BK225.out) hb); have n3_ := Aside0.mk (below_step (by repeat (first | (with_reducible first | exact HB.out | apply below_alloc | apply pw_below_drewN | apply below_drew1 | refine below_set ?_ GE225.out) | exact HB.out)) hb); clear HO_7; clear HO_9; clear BK225; clear HB; have HO_7 := n0_; have HO_9 := n1_; have BK225 := n2_; have HB := n3_; clear n0_ n1_ n2_ n3_; (try clear hb); (try clear hb2); (try clear hk); (try clear hi))); try go_wp2_with (first | (go_at_call 13; (with_reducible refine (slabvaultlaw12_lives.calls kj24  t238 _ A30.out).mono ?_); rintro e w32 ⟨rfl, hb⟩; have n0_ := Aside0.mk (Kd.S_below (by (with_reducible repeat (first | apply Kd.S_alloc | apply Kd.S_drewN | apply Kd.S_drew)); exact HO_7.out) hb); have n1_ := Aside0.mk (Kd.R_below (by (with_reducible repeat (first | apply Kd.R_alloc | apply Kd.R_drewN | apply Kd.R_drew)); exact HO_9.out) hb); have n2_ := Aside0.mk (blk_below (g := gb225) (o := .cells #[.int .i64 a1_0, .slice A1_1 l1_1.length c1_1, .slice A1_2 l1_2.length c1_2, .slice A1_3 l1_3.length c1_3, .slice A1_4 l1_4.length c1_4, .slice A1_5 l1_5.length c1_5] 33 (0, 0)) (by (with_reducible repeat (first | refine blk_drewN ?_ _ | refine blk_drew ?_ | refine blk_alloc ?_ _)); exact BK225.out) hb); have n3_ := Aside0.mk (below_step (by repeat (first | (with_reducible first | exact HB.out | apply below_alloc | apply pw_below_drewN | apply below_drew1 | refine below_set ?_ GE225.out) | exact HB.out)) hb); clear HO_7; clear HO_9; clear BK225; clear HB; have HO_7 := n0_; have HO_9 := n1_; have BK225 := n2_; have HB := n3_; clear n0_ n1_ n2_ n3_; (try clear hb); (try clear hb2); (try clear hk); (try clear hi))))
                    go_ret
                    exact ⟨by first | rfl | (simp [errW_none, errW_some] <;> rfl) | (simp [*, errW_none, errW_some] <;> rfl), by repeat (first | (with_reducible first | exact HB.out | apply below_alloc | apply pw_below_drewN | apply below_drew1 | refine below_set ?_ GE225.out) | exact HB.out)⟩
                  · rw [if_neg c29] at H
                    have c29b0 : (t229 == 0) = false := beq_eq_false_iff_ne.mpr c29
                    have c29b1 : (t229 != 0) = true := bne_iff_ne.mpr c29
                    by_cases c33 : t233 = t229
                    · rw [if_pos c33] at H
                      have c33b0 : (t233 == t229) = true := beq_iff_eq.mpr c33
                      have c33b1 : (t233 != t229) = false := bne_eq_false_iff_eq.mpr c33
                      clear c33
                      replace H := Option.bind_eq_some_iff.mp H
                      obtain ⟨t239, A340, H⟩ := H
                      replace H : (some t239) = some r := H
                      have A34 := Aside0.mk A340
                      clear A340
                      obtain rfl := Option.some.inj H
                      obtain ⟨Ao35, co35, eo35⟩ := Kd.S_slice HO_7.out
                      subst eo35
                      go_wp2_with (first | (go_at_call 13; (with_reducible refine (slabvaultlaw12_lives.calls kj24  t239 _ A34.out).mono ?_); rintro e w36 ⟨rfl, hb⟩; have n0_ := Aside0.mk (Kd.S_below (by (with_reducible repeat (first | apply Kd.S_alloc | apply Kd.S_drewN | apply Kd.S_drew)); exact HO_7.out) hb); have n1_ := Aside0.mk (Kd.R_below (by (with_reducible repeat (first | apply Kd.R_alloc | apply Kd.R_drewN | apply Kd.R_drew)); exact HO_9.out) hb); have n2_ := Aside0.mk (blk_below (g := gb225) (o := .cells #[.int .i64 a1_0, .slice A1_1 l1_1.length c1_1, .slice A1_2 l1_2.length c1_2, .slice A1_3 l1_3.length c1_3, .slice A1_4 l1_4.length c1_4, .slice A1_5 l1_5.length c1_5] 33 (0, 0)) (by (with_reducible repeat (first | refine blk_drewN ?_ _ | refine blk_drew ?_ | refine blk_alloc ?_ _)); exact BK225.out) hb); have n3_ := Aside0.mk (below_step (by repeat (first | (with_reducible first | exact HB.out | apply below_alloc | apply pw_below_drewN | apply below_drew1 | refine below_set ?_ GE225.out) | exact HB.out)) hb); clear HO_7; clear HO_9; clear BK225; clear HB; have HO_7 := n0_; have HO_9 := n1_; have BK225 := n2_; have HB := n3_; clear n0_ n1_ n2_ n3_; (try clear hb); (try clear hb2); (try clear hk); (try clear hi)))
                      repeat (go_quiet (first | (go_at_call 13; (with_reducible refine (slabvaultlaw12_lives.calls kj24  t239 _ A34.out).mono ?_); rintro e w36 ⟨rfl, hb⟩; have n0_ := Aside0.mk (Kd.S_below (by (with_reducible repeat (first | apply Kd.S_alloc | apply Kd.S_drewN | apply Kd.S_drew)); exact HO_7.out) hb); have n1_ := Aside0.mk (Kd.R_below (by (with_reducible repeat (first | apply Kd.R_alloc | apply Kd.R_drewN | apply Kd.R_drew)); exact HO_9.out) hb); have n2_ := Aside0.mk (blk_below (g := gb225) (o := .cells #[.int .i64 a1_0, .slice A1_1 l1_1.length c1_1, .slice A1_2 l1_2.length c1_2, .slice A1_3 l1_3.length c1_3, .slice A1_4 l1_4.length c1_4, .slice A1_5 l1_5.length c1_5] 33 (0, 0)) (by (with_reducible repeat (first | refine blk_drewN ?_ _ | refine blk_drew ?_ | refine blk_alloc ?_ _)); exact BK225.out) hb); have n3_ := Aside0.mk (below_step (by repeat (first | (with_reducible first | exact HB.out | apply below_alloc | apply pw_below_drewN | apply below_drew1 | refine below_set ?_ GE225.out) | exact HB.out)) hb); clear HO_7; clear HO_9; clear BK225; clear HB; have HO_7 := n0_; have HO_9 := n1_; have BK225 := n2_; have HB := n3_; clear n0_ n1_ n2_ n3_; (try clear hb); (try clear hb2); (try clear hk); (try clear hi))); try go_wp2_with (first | (go_at_call 13; (with_reducible refine (slabvaultlaw12_lives.calls kj24  t239 _ A34.out).mono ?_); rintro e w36 ⟨rfl, hb⟩; have n0_ := Aside0.mk (Kd.S_below (by (with_reducible repeat (first | apply Kd.S_alloc | apply Kd.S_drewN | apply Kd.S_drew)); exact HO_7.out) hb); have n1_ := Aside0.mk (Kd.R_below (by (with_reducible repeat (first | apply Kd.R_alloc | apply Kd.R_drewN | apply Kd.R_drew)); exact HO_9.out) hb); have n2_ := Aside0.mk (blk_below (g := gb225) (o := .cells #[.int .i64 a1_0, .slice A1_1 l1_1.length c1_1, .slice A1_2 l1_2.length c1_2, .slice A1_3 l1_3.length c1_3, .slice A1_4 l1_4.length c1_4, .slice A1_5 l1_5.length c1_5] 33 (0, 0)) (by (with_reducible repeat (first | refine blk_drewN ?_ _ | refine blk_drew ?_ | refine blk_alloc ?_ _)); exact BK225.out) hb); have n3_ := Aside0.mk (below_step (by repeat (first | (with_reducible first | exact HB.out | apply below_alloc | apply pw_below_drewN | apply below_drew1 | refine below_set ?_ GE225.out) | exact HB.out)) hb); clear HO_7; clear HO_9; clear BK225; clear HB; have HO_7 := n0_; have HO_9 := n1_; have BK225 := n2_; have HB := n3_; clear n0_ n1_ n2_ n3_; (try clear hb); (try clear hb2); (try clear hk); (try clear hi))))
                      go_ret
                      exact ⟨by first | rfl | (simp [errW_none, errW_some] <;> rfl) | (simp [*, errW_none, errW_some] <;> rfl), by repeat (first | (with_reducible first | exact HB.out | apply below_alloc | apply pw_below_drewN | apply below_drew1 | refine below_set ?_ GE225.out) | exact HB.out)⟩
                    · rw [if_neg c33] at H
                      have c33b0 : (t233 == t229) = false := beq_eq_false_iff_ne.mpr c33
                      have c33b1 : (t233 != t229) = true := bne_iff_ne.mpr c33
                      obtain rfl := Option.some.inj H
                      obtain ⟨Ao37, co37, eo37⟩ := Kd.S_slice HO_7.out
                      subst eo37
                      go_wp2
                      repeat (go_quiet (fail); try go_wp2)
                      go_ret
                      exact ⟨by first | rfl | (simp [errW_none, errW_some] <;> rfl) | (simp [*, errW_none, errW_some] <;> rfl), by repeat (first | (with_reducible first | exact HB.out | apply below_alloc | apply pw_below_drewN | apply below_drew1 | refine below_set ?_ GE225.out) | exact HB.out)⟩
                · rw [if_neg c28] at H
                  have c28b0 : ((t230.length : Int) == 0) = false := beq_eq_false_iff_ne.mpr c28
                  have c28b1 : ((t230.length : Int) != 0) = true := bne_iff_ne.mpr c28
                  have c28b2 : ¬ (t230 = []) := fun h_ => c28 (by rw [h_]; rfl)
                  obtain rfl := Option.some.inj H
                  obtain ⟨Ao38, co38, eo38⟩ := Kd.S_slice HO_7.out
                  subst eo38
                  go_wp2
                  repeat (go_quiet (fail); try go_wp2)
                  go_ret
                  exact ⟨by first | rfl | (simp [errW_none, errW_some] <;> rfl) | (simp [*, errW_none, errW_some] <;> rfl), by repeat (first | (with_reducible first | exact HB.out | apply below_alloc | apply pw_below_drewN | apply below_drew1 | refine below_set ?_ GE225.out) | exact HB.out)⟩
              · replace c27 := Bool.eq_false_iff.mpr c27
                subst c27
                have H1 : (slabvaultlaw12_SpaceInside.l0 kj24 l0 t228 t230 t234 0) = some r := by rw [if_neg (show ¬ (false = true) by decide)] at H; exact H
                clear H
                have H := H1
                clear H1
                have H' := Aside0.mk H
                clear H
                go_wp2
                repeat (go_quiet (fail); try go_wp2)
                go_loopg [11] kj24 (fun kq v11 w' => ∃ (x11_3 : Int), v11 = .int .i64 x11_3 ∧ Aside0 (slabvaultlaw12_SpaceInside.l0 kq l0 t228 t230 t234 x11_3 = some r) ∧ Aside0 (kq ≤ kj24) ∧ Aside0 (Kd.S (Kd.slice 3 (Kd.int .i64)) 22 w' w.heap.size (fun k_ => some k_ ≠ (v235 : Value).ownBlock) v231 t230) ∧ Aside0 (Kd.R (Kd.int .i64) 3 w' w.heap.size (fun _ => True) v235 t234) ∧ Aside0 (w'.heap[gb225]? = some (.cells #[.int .i64 a1_0, (.slice A1_1 l1_1.length c1_1), (.slice A1_2 l1_2.length c1_2), (.slice A1_3 l1_3.length c1_3), (.slice A1_4 l1_4.length c1_4), (.slice A1_5 l1_5.length c1_5)] 33 (0, 0))) ∧ Aside0 (Below w.heap.size w w'))
                case atStart => exact ⟨(0), (by first | rfl | (simp; done) | (simp [*]; done)), H', ⟨Nat.le_refl _⟩, ⟨by (with_reducible repeat (first | apply Kd.S_alloc | apply Kd.S_drewN | apply Kd.S_drew)); exact HO_7.out⟩, ⟨by (with_reducible repeat (first | apply Kd.R_alloc | apply Kd.R_drewN | apply Kd.R_drew)); exact HO_9.out⟩, ⟨by (with_reducible repeat (first | refine blk_drewN ?_ _ | refine blk_drew ?_ | refine blk_alloc ?_ _)); exact BK225.out⟩, ⟨by repeat (first | (with_reducible first | exact HB.out | apply below_alloc | apply pw_below_drewN | apply below_drew1 | refine below_set ?_ GE225.out) | exact HB.out)⟩⟩
                case round =>
                  clear H'
                  try clear c1
                  try clear c2
                  try clear p2
                  try clear c3
                  try clear c4
                  try clear c10
                  try clear c21
                  try clear c21b0
                  try clear c21b1
                  try clear c24
                  try clear c26
                  try clear c26b0
                  try clear c26b1
                  try clear c27
                  try clear c28
                  try clear c28b0
                  try clear c28b1
                  try clear c28b2
                  try clear c29
                  try clear c29b0
                  try clear c29b1
                  try clear c33
                  try clear c33b0
                  try clear c33b1
                  try clear hcz15_0
                  try clear hcz15_1
                  try clear hcz15_2
                  try clear hcz15_3
                  try clear hcz15_4
                  try clear hcz15_5
                  try clear hcz17_0
                  try clear hcz17_1
                  try clear hcz17_2
                  try clear hcz17_3
                  try clear hcz17_4
                  try clear hcz17_5
                  try clear hcz19_0
                  try clear hcz19_1
                  try clear hcz19_2
                  try clear hcz19_3
                  try clear hcz19_4
                  try clear hcz19_5
                  try clear hcz7_0
                  try clear hcz7_1
                  try clear hcz7_2
                  try clear hcz7_3
                  try clear hcz7_4
                  try clear hcz7_5
                  try clear hfz15_0
                  try clear hfz15_1
                  try clear hfz15_2
                  try clear hfz15_3
                  try clear hfz15_4
                  try clear hfz15_5
                  try clear hfz17_0
                  try clear hfz17_1
                  try clear hfz17_2
                  try clear hfz17_3
                  try clear hfz17_4
                  try clear hfz17_5
                  try clear hfz19_0
                  try clear hfz19_1
                  try clear hfz19_2
                  try clear hfz19_3
                  try clear hfz19_4
                  try clear hfz19_5
                  try clear hfz7_0
                  try clear hfz7_1
                  try clear hfz7_2
                  try clear hfz7_3
                  try clear hfz7_4
                  try clear hfz7_5
                  try clear p2
                  obtain ⟨x11_3, rfl, HA, HK3, HO_7, HO_9, BK225, HB⟩ := hrel
                  cases gk with
                  | zero => exact absurd HA.out (by simp [slabvaultlaw12_SpaceInside.l0])
                  | succ k3 =>
                    have H := HA.out
                    clear HA
                    simp only [slabvaultlaw12_SpaceInside.l0] at H
                    by_cases c39 : x11_3 < (t230.length : Int)
                    · rw [if_pos c39] at H
                      have c39b0 : decide (x11_3 < (t230.length : Int)) = true := decide_eq_true c39
                      clear c39
                      have HC40 := Aside0.mk H
                      clear H
                      obtain ⟨Ao41, co41, eo41⟩ := Kd.S_slice HO_7.out
                      subst eo41
                      go_upto_region 13 with (fail)
                      repeat (go_quiet (fail); go_upto_region 13 with (fail))
                      go_cut [93] (fun v93 wc => ∃ (kq : Nat) (x93_39 : Bool), v93 = .bool x93_39 ∧ Aside0 (slabvaultlaw12_SpaceInside.j3 kq l0 t228 t230 t234 x11_3 x93_39 = some r) ∧ Aside0 (kq ≤ k3) ∧ Aside0 (Kd.S (Kd.slice 3 (Kd.int .i64)) 22 wc w.heap.size (fun k_ => some k_ ≠ (v235 : Value).ownBlock) (.slice Ao41 t230.length co41) t230) ∧ Aside0 (Kd.R (Kd.int .i64) 3 wc w.heap.size (fun _ => True) v235 t234) ∧ Aside0 (wc.heap[gb225]? = some (.cells #[.int .i64 a1_0, (.slice A1_1 l1_1.length c1_1), (.slice A1_2 l1_2.length c1_2), (.slice A1_3 l1_3.length c1_3), (.slice A1_4 l1_4.length c1_4), (.slice A1_5 l1_5.length c1_5)] 33 (0, 0))) ∧ Aside0 (Below w.heap.size w wc))
                      case first =>
                        have H := HC40.out
                        clear HC40
                        by_cases c42 : 0 ≤ x11_3
                        · rw [if_pos c42] at H
                          have c42b0 : decide (0 ≤ x11_3) = true := decide_eq_true c42
                          clear c42
                          (first | rw [c42b0] | (simp only [i64_w, i32_w]; rw [c42b0]) | skip)
                          by_cases c43 : x11_3 < (t234.length : Int)
                          · rw [if_pos c43] at H
                            have c43b0 : decide (x11_3 < (t234.length : Int)) = true := decide_eq_true c43
                            clear c43
                            by_cases c44 : (rd t234 x11_3) < 0
                            · rw [if_pos c44] at H
                              have c44b0 : decide ((rd t234 x11_3) < 0) = true := decide_eq_true c44
                              clear c44
                              have H' := Aside0.mk H
                              clear H
                              obtain ⟨Ao45, co45, eo45⟩ := Kd.R_slice HO_9.out
                              subst eo45
                              have p241 : 0 ≤ (x11_3 : Int) := of_decide_eq_true (by first | (with_reducible assumption) | assumption)
                              have q241 : x11_3 < (t234.length : Int) := of_decide_eq_true (by first | (with_reducible assumption) | assumption)
                              obtain ⟨ad241, e241, hx241_0⟩ := Kd.at_int (Kd.R_reads' HO_9.out).2.2 x11_3 p241 q241
                              cases e241
                              replace p241 := eq_true p241
                              replace q241 := eq_true q241
                              go_wp2
                              repeat (go_quiet (fail); try go_wp2)
                              go_meet
                              case rel => exact ⟨_, (true), (by first | rfl | (simp; done) | (simp [*]; done)), H', ⟨by have := HJ12.out; have := HJ24.out; have := HK3.out; first | omega | exact Nat.le_refl _⟩, ⟨by (with_reducible repeat (first | apply Kd.S_alloc | apply Kd.S_drewN | apply Kd.S_drew)); exact HO_7.out⟩, ⟨by (with_reducible repeat (first | apply Kd.R_alloc | apply Kd.R_drewN | apply Kd.R_drew)); exact HO_9.out⟩, ⟨by (with_reducible repeat (first | refine blk_drewN ?_ _ | refine blk_drew ?_ | refine blk_alloc ?_ _)); exact BK225.out⟩, ⟨by repeat (first | (with_reducible first | exact HB.out | apply below_alloc | apply pw_below_drewN | apply below_drew1 | refine below_set ?_ GE225.out) | exact HB.out)⟩⟩
                            · rw [if_neg c44] at H
                              have c44b0 : decide ((rd t234 x11_3) < 0) = false := decide_eq_false c44
                              clear c44
                              by_cases c46 : (rd t234 x11_3) ≥ t228
                              · rw [if_pos c46] at H
                                have c46b0 : decide (t228 ≤ (rd t234 x11_3)) = true := decide_eq_true c46
                                clear c46
                                have H' := Aside0.mk H
                                clear H
                                obtain ⟨Ao47, co47, eo47⟩ := Kd.R_slice HO_9.out
                                subst eo47
                                have p241 : 0 ≤ (x11_3 : Int) := of_decide_eq_true (by first | (with_reducible assumption) | assumption)
                                have q241 : x11_3 < (t234.length : Int) := of_decide_eq_true (by first | (with_reducible assumption) | assumption)
                                obtain ⟨ad241, e241, hx241_0⟩ := Kd.at_int (Kd.R_reads' HO_9.out).2.2 x11_3 p241 q241
                                cases e241
                                replace p241 := eq_true p241
                                replace q241 := eq_true q241
                                have p242 : 0 ≤ (x11_3 : Int) := of_decide_eq_true (by first | (with_reducible assumption) | assumption)
                                have q242 : x11_3 < (t234.length : Int) := of_decide_eq_true (by first | (with_reducible assumption) | assumption)
                                obtain ⟨ad242, e242, hx242_0⟩ := Kd.at_int (Kd.R_reads' HO_9.out).2.2 x11_3 p242 q242
                                obtain rfl : ad241 = ad242 := (by injection e242)
                                replace p242 := eq_true p242
                                replace q242 := eq_true q242
                                go_wp2
                                repeat (go_quiet (fail); try go_wp2)
                                go_meet
                                case rel => exact ⟨_, (true), (by first | rfl | (simp; done) | (simp [*]; done)), H', ⟨by have := HJ12.out; have := HJ24.out; have := HK3.out; first | omega | exact Nat.le_refl _⟩, ⟨by (with_reducible repeat (first | apply Kd.S_alloc | apply Kd.S_drewN | apply Kd.S_drew)); exact HO_7.out⟩, ⟨by (with_reducible repeat (first | apply Kd.R_alloc | apply Kd.R_drewN | apply Kd.R_drew)); exact HO_9.out⟩, ⟨by (with_reducible repeat (first | refine blk_drewN ?_ _ | refine blk_drew ?_ | refine blk_alloc ?_ _)); exact BK225.out⟩, ⟨by repeat (first | (with_reducible first | exact HB.out | apply below_alloc | apply pw_below_drewN | apply below_drew1 | refine below_set ?_ GE225.out) | exact HB.out)⟩⟩
                              · rw [if_neg c46] at H
                                have c46b0 : decide (t228 ≤ (rd t234 x11_3)) = false := decide_eq_false c46
                                clear c46
                                have H' := Aside0.mk H
                                clear H
                                obtain ⟨Ao48, co48, eo48⟩ := Kd.R_slice HO_9.out
                                subst eo48
                                have p241 : 0 ≤ (x11_3 : Int) := of_decide_eq_true (by first | (with_reducible assumption) | assumption)
                                have q241 : x11_3 < (t234.length : Int) := of_decide_eq_true (by first | (with_reducible assumption) | assumption)
                                obtain ⟨ad241, e241, hx241_0⟩ := Kd.at_int (Kd.R_reads' HO_9.out).2.2 x11_3 p241 q241
                                cases e241
                                replace p241 := eq_true p241
                                replace q241 := eq_true q241
                                have p242 : 0 ≤ (x11_3 : Int) := of_decide_eq_true (by first | (with_reducible assumption) | assumption)
                                have q242 : x11_3 < (t234.length : Int) := of_decide_eq_true (by first | (with_reducible assumption) | assumption)
                                obtain ⟨ad242, e242, hx242_0⟩ := Kd.at_int (Kd.R_reads' HO_9.out).2.2 x11_3 p242 q242
                                obtain rfl : ad241 = ad242 := (by injection e242)
                                replace p242 := eq_true p242
                                replace q242 := eq_true q242
                                have p243 : 0 ≤ (x11_3 : Int) := of_decide_eq_true (by first | (with_reducible assumption) | assumption)
                                have q243 : x11_3 < (t230.length : Int) := of_decide_eq_true (by first | (with_reducible assumption) | assumption)
                                obtain ⟨ad243, A243_0, c243_0, e243, hx243_0, hl243_0, hi243_0⟩ := at_L1 (Kd.S_reads' HO_7.out).2.2 x11_3 p243 q243
                                cases e243
                                obtain ⟨ce243, hce243, hMe243, hcc243⟩ := Kd.S_get HO_7.out [] x11_3 p243 (by first | exact q243 | exact of_decide_eq_true (by first | (with_reducible assumption) | assumption) | (have e_ := (Kd.S_reads' HO_7.out).1; omega))
                                obtain ⟨ve243_0, rfl, ge243_0⟩ := hMe243
                                have hv243_0 := hcc243 0 _ rfl
                                rw [Nat.add_zero, show ((Kd.slice 3 (Kd.int .i64))).sz = 1 from rfl, Nat.mul_one] at hv243_0
                                replace hv243_0 := Option.some.inj (hv243_0.symm.trans hx243_0)
                                rw [hv243_0] at ge243_0
                                have HL243_0 := Aside0.mk (show Kd.R (Kd.int .i64) 3 _ _ _ _ (rd_L1 t230 x11_3) from ge243_0)
                                clear hv243_0 ge243_0
                                clear hcc243 hce243
                                have HR243_0 := Aside0.mk hi243_0
                                have HC243_0 := Aside0.mk hl243_0
                                clear hi243_0 hl243_0
                                replace p243 := eq_true p243
                                replace q243 := eq_true q243
                                go_wp2
                                repeat (go_quiet (fail); try go_wp2)
                                go_meet
                                case rel => exact ⟨_, ((((rd_L1 t230 x11_3).length : Int) != (l0.length : Int))), (by first | rfl | (simp; done) | (simp [*]; done)), H', ⟨by have := HJ12.out; have := HJ24.out; have := HK3.out; first | omega | exact Nat.le_refl _⟩, ⟨by (with_reducible repeat (first | apply Kd.S_alloc | apply Kd.S_drewN | apply Kd.S_drew)); exact HO_7.out⟩, ⟨by (with_reducible repeat (first | apply Kd.R_alloc | apply Kd.R_drewN | apply Kd.R_drew)); exact HO_9.out⟩, ⟨by (with_reducible repeat (first | refine blk_drewN ?_ _ | refine blk_drew ?_ | refine blk_alloc ?_ _)); exact BK225.out⟩, ⟨by repeat (first | (with_reducible first | exact HB.out | apply below_alloc | apply pw_below_drewN | apply below_drew1 | refine below_set ?_ GE225.out) | exact HB.out)⟩⟩
                          · rw [if_neg c43] at H
                            exact absurd H (by simp)
                        · rw [if_neg c42] at H
                          exact absurd H (by simp)
                      case rest =>
                        clear HC40
                        try clear c1
                        try clear c2
                        try clear p2
                        try clear q2
                        try clear hx2
                        try clear c3
                        try clear c4
                        try clear c10
                        try clear c21
                        try clear c21b0
                        try clear c21b1
                        try clear c24
                        try clear p24
                        try clear q24
                        try clear hx24
                        try clear c26
                        try clear c26b0
                        try clear c26b1
                        try clear c27
                        try clear c28
                        try clear c28b0
                        try clear c28b1
                        try clear c28b2
                        try clear c29
                        try clear c29b0
                        try clear c29b1
                        try clear c33
                        try clear c33b0
                        try clear c33b1
                        try clear c39
                        try clear c39b0
                        try clear c42
                        try clear c42b0
                        try clear c43
                        try clear c43b0
                        try clear c44
                        try clear c44b0
                        try clear c46
                        try clear c46b0
                        try clear hcz15_0
                        try clear hcz15_1
                        try clear hcz15_2
                        try clear hcz15_3
                        try clear hcz15_4
                        try clear hcz15_5
                        try clear hcz17_0
                        try clear hcz17_1
                        try clear hcz17_2
                        try clear hcz17_3
                        try clear hcz17_4
                        try clear hcz17_5
                        try clear hcz19_0
                        try clear hcz19_1
                        try clear hcz19_2
                        try clear hcz19_3
                        try clear hcz19_4
                        try clear hcz19_5
                        try clear hcz7_0
                        try clear hcz7_1
                        try clear hcz7_2
                        try clear hcz7_3
                        try clear hcz7_4
                        try clear hcz7_5
                        try clear hfz15_0
                        try clear hfz15_1
                        try clear hfz15_2
                        try clear hfz15_3
                        try clear hfz15_4
                        try clear hfz15_5
                        try clear hfz17_0
                        try clear hfz17_1
                        try clear hfz17_2
                        try clear hfz17_3
                        try clear hfz17_4
                        try clear hfz17_5
                        try clear hfz19_0
                        try clear hfz19_1
                        try clear hfz19_2
                        try clear hfz19_3
                        try clear hfz19_4
                        try clear hfz19_5
                        try clear hfz7_0
                        try clear hfz7_1
                        try clear hfz7_2
                        try clear hfz7_3
                        try clear hfz7_4
                        try clear hfz7_5
                        try clear hx241_0
                        try clear hx242_0
                        try clear hx243_0
                        try clear p2
                        try clear p241
                        try clear p242
                        try clear p243
                        try clear q241
                        try clear q242
                        try clear q243
                        obtain ⟨kq, x93_39, rfl, HA, HJ39, HO_7, HO_9, BK225, HB⟩ := hcut
                        cases kq with
                        | zero => exact absurd HA.out (by simp [slabvaultlaw12_SpaceInside.j3])
                        | succ kj39 =>
                          have H := HA.out
                          clear HA
                          simp only [slabvaultlaw12_SpaceInside.j3] at H
                          by_cases c49 : x93_39 = true
                          · subst c49
                            have H1 : (some false) = some r := by rw [if_pos rfl] at H; exact H
                            clear H
                            have H := H1
                            clear H1
                            obtain rfl := Option.some.inj H
                            go_wp2
                            repeat (go_quiet (fail); try go_wp2)
                            go_ret
                            exact ⟨by first | rfl | (simp [errW_none, errW_some] <;> rfl) | (simp [*, errW_none, errW_some] <;> rfl), by repeat (first | (with_reducible first | exact HB.out | apply below_alloc | apply pw_below_drewN | apply below_drew1 | refine below_set ?_ GE225.out) | exact HB.out)⟩
                          · replace c49 := Bool.eq_false_iff.mpr c49
                            subst c49
                            have H1 : (if 0 ≤ x11_3 then (if x11_3 < (t234.length : Int) then (slabvaultlaw12_SpaceInside.l1 kj39 l0 t228 t230 t234 x11_3 (rd t234 x11_3) (wrap64 ((l0.length : Int) - 1))) else (none)) else (none)) = some r := by rw [if_neg (show ¬ (false = true) by decide)] at H; exact H
                            clear H
                            have H := H1
                            clear H1
                            by_cases c50 : 0 ≤ x11_3
                            · rw [if_pos c50] at H
                              have c50b0 : decide (0 ≤ x11_3) = true := decide_eq_true c50
                              clear c50
                              by_cases c51 : x11_3 < (t234.length : Int)
                              · rw [if_pos c51] at H
                                have c51b0 : decide (x11_3 < (t234.length : Int)) = true := decide_eq_true c51
                                clear c51
                                have H' := Aside0.mk H
                                clear H
                                obtain ⟨Ao52, co52, eo52⟩ := Kd.R_slice HO_9.out
                                subst eo52
                                have p244 : 0 ≤ (x11_3 : Int) := of_decide_eq_true (by first | (with_reducible assumption) | assumption)
                                have q244 : x11_3 < (t234.length : Int) := of_decide_eq_true (by first | (with_reducible assumption) | assumption)
                                obtain ⟨ad244, e244, hx244_0⟩ := Kd.at_int (Kd.R_reads' HO_9.out).2.2 x11_3 p244 q244
                                cases e244
                                replace p244 := eq_true p244
                                replace q244 := eq_true q244
                                go_wp2
                                repeat (go_quiet (fail); try go_wp2)
                                go_loopg [12, 13] kj39 (fun kq v12 v13 w' => ∃ (x12_5 : Int) (x13_5 : Int), v12 = .int .i64 x12_5 ∧ v13 = .int .i64 x13_5 ∧ Aside0 (slabvaultlaw12_SpaceInside.l1 kq l0 t228 t230 t234 x11_3 x12_5 x13_5 = some r) ∧ Aside0 (kq ≤ kj39) ∧ Aside0 (Kd.S (Kd.slice 3 (Kd.int .i64)) 22 w' w.heap.size (fun k_ => some k_ ≠ ((.slice (some ad244) t234.length co52) : Value).ownBlock) (.slice Ao41 t230.length co41) t230) ∧ Aside0 (Kd.R (Kd.int .i64) 3 w' w.heap.size (fun _ => True) (.slice (some ad244) t234.length co52) t234) ∧ Aside0 (w'.heap[gb225]? = some (.cells #[.int .i64 a1_0, (.slice A1_1 l1_1.length c1_1), (.slice A1_2 l1_2.length c1_2), (.slice A1_3 l1_3.length c1_3), (.slice A1_4 l1_4.length c1_4), (.slice A1_5 l1_5.length c1_5)] 33 (0, 0))) ∧ Aside0 (Below w.heap.size w w'))
                                case atStart => exact ⟨(rd t234 x11_3), (wrap64 ((l0.length : Int) - 1)), (by first | rfl | (simp; done) | (simp [*]; done)), (by first | rfl | (simp; done) | (simp [*]; done)), H', ⟨Nat.le_refl _⟩, ⟨by (with_reducible repeat (first | apply Kd.S_alloc | apply Kd.S_drewN | apply Kd.S_drew)); exact HO_7.out⟩, ⟨by (with_reducible repeat (first | apply Kd.R_alloc | apply Kd.R_drewN | apply Kd.R_drew)); exact HO_9.out⟩, ⟨by (with_reducible repeat (first | refine blk_drewN ?_ _ | refine blk_drew ?_ | refine blk_alloc ?_ _)); exact BK225.out⟩, ⟨by repeat (first | (with_reducible first | exact HB.out | apply below_alloc | apply pw_below_drewN | apply below_drew1 | refine below_set ?_ GE225.out) | exact HB.out)⟩⟩
                                case round =>
                                  clear H'
                                  try clear c1
                                  try clear c2
                                  try clear p2
                                  try clear q2
                                  try clear hx2
                                  try clear c3
                                  try clear c4
                                  try clear c5
                                  try clear p6
                                  try clear c10
                                  try clear c21
                                  try clear c21b0
                                  try clear c21b1
                                  try clear c24
                                  try clear p24
                                  try clear q24
                                  try clear hx24
                                  try clear c26
                                  try clear c26b0
                                  try clear c26b1
                                  try clear c27
                                  try clear c28
                                  try clear c28b0
                                  try clear c28b1
                                  try clear c28b2
                                  try clear c29
                                  try clear c29b0
                                  try clear c29b1
                                  try clear c33
                                  try clear c33b0
                                  try clear c33b1
                                  try clear c39
                                  try clear c39b0
                                  try clear c42
                                  try clear c42b0
                                  try clear c43
                                  try clear c43b0
                                  try clear c44
                                  try clear c44b0
                                  try clear c46
                                  try clear c46b0
                                  try clear c49
                                  try clear c50
                                  try clear c50b0
                                  try clear c51
                                  try clear c51b0
                                  try clear hcz15_0
                                  try clear hcz15_1
                                  try clear hcz15_2
                                  try clear hcz15_3
                                  try clear hcz15_4
                                  try clear hcz15_5
                                  try clear hcz17_0
                                  try clear hcz17_1
                                  try clear hcz17_2
                                  try clear hcz17_3
                                  try clear hcz17_4
                                  try clear hcz17_5
                                  try clear hcz19_0
                                  try clear hcz19_1
                                  try clear hcz19_2
                                  try clear hcz19_3
                                  try clear hcz19_4
                                  try clear hcz19_5
                                  try clear hcz7_0
                                  try clear hcz7_1
                                  try clear hcz7_2
                                  try clear hcz7_3
                                  try clear hcz7_4
                                  try clear hcz7_5
                                  try clear hfz15_0
                                  try clear hfz15_1
                                  try clear hfz15_2
                                  try clear hfz15_3
                                  try clear hfz15_4
                                  try clear hfz15_5
                                  try clear hfz17_0
                                  try clear hfz17_1
                                  try clear hfz17_2
                                  try clear hfz17_3
                                  try clear hfz17_4
                                  try clear hfz17_5
                                  try clear hfz19_0
                                  try clear hfz19_1
                                  try clear hfz19_2
                                  try clear hfz19_3
                                  try clear hfz19_4
                                  try clear hfz19_5
                                  try clear hfz7_0
                                  try clear hfz7_1
                                  try clear hfz7_2
                                  try clear hfz7_3
                                  try clear hfz7_4
                                  try clear hfz7_5
                                  try clear hx241_0
                                  try clear hx242_0
                                  try clear hx243_0
                                  try clear hx244_0
                                  try clear p2
                                  try clear p24
                                  try clear p241
                                  try clear p242
                                  try clear p243
                                  try clear p244
                                  try clear q2
                                  try clear q24
                                  try clear q241
                                  try clear q242
                                  try clear q243
                                  try clear q244
                                  obtain ⟨x12_5, x13_5, rfl, rfl, HA, HK5, HO_7, HO_9, BK225, HB⟩ := hrel
                                  cases gk with
                                  | zero => exact absurd HA.out (by simp [slabvaultlaw12_SpaceInside.l1])
                                  | succ k5 =>
                                    have H := HA.out
                                    clear HA
                                    simp only [slabvaultlaw12_SpaceInside.l1] at H
                                    by_cases c53 : x13_5 ≥ 0
                                    · rw [if_pos c53] at H
                                      have c53b0 : decide (0 ≤ x13_5) = true := decide_eq_true c53
                                      clear c53
                                      by_cases c54 : 0 ≤ x11_3
                                      · rw [if_pos c54] at H
                                        have c54b0 : decide (0 ≤ x11_3) = true := decide_eq_true c54
                                        clear c54
                                        by_cases c55 : x11_3 < (t230.length : Int)
                                        · rw [if_pos c55] at H
                                          have c55b0 : decide (x11_3 < (t230.length : Int)) = true := decide_eq_true c55
                                          clear c55
                                          by_cases c56 : 0 ≤ x13_5
                                          · rw [if_pos c56] at H
                                            have c56b0 : decide (0 ≤ x13_5) = true := decide_eq_true c56
                                            clear c56
                                            by_cases c57 : x13_5 < ((rd_L1 t230 x11_3).length : Int)
                                            · rw [if_pos c57] at H
                                              have c57b0 : decide (x13_5 < ((rd_L1 t230 x11_3).length : Int)) = true := decide_eq_true c57
                                              clear c57
                                              by_cases c58 : x13_5 < (l0.length : Int)
                                              · rw [if_pos c58] at H
                                                have c58b0 : decide (x13_5 < (l0.length : Int)) = true := decide_eq_true c58
                                                clear c58
                                                by_cases c59 : (rd l0 x13_5) = 0
                                                · rw [if_pos c59] at H
                                                  exact absurd H (by simp)
                                                · rw [if_neg c59] at H
                                                  have c59b0 : ((rd l0 x13_5) == 0) = false := beq_eq_false_iff_ne.mpr c59
                                                  have c59b1 : ((rd l0 x13_5) != 0) = true := bne_iff_ne.mpr c59
                                                  by_cases c60 : (rd (rd_L1 t230 x11_3) x13_5) = (Int.tmod x12_5 (rd l0 x13_5))
                                                  · rw [if_pos c60] at H
                                                    have c60b0 : ((rd (rd_L1 t230 x11_3) x13_5) == (Int.tmod x12_5 (rd l0 x13_5))) = true := beq_iff_eq.mpr c60
                                                    have c60b1 : ((rd (rd_L1 t230 x11_3) x13_5) != (Int.tmod x12_5 (rd l0 x13_5))) = false := bne_eq_false_iff_eq.mpr c60
                                                    clear c60
                                                    have H' := Aside0.mk H
                                                    clear H
                                                    have p245 : 0 ≤ (x11_3 : Int) := of_decide_eq_true (by first | (with_reducible assumption) | assumption)
                                                    have q245 : x11_3 < (t230.length : Int) := of_decide_eq_true (by first | (with_reducible assumption) | assumption)
                                                    obtain ⟨ad245, A245_0, c245_0, e245, hx245_0, hl245_0, hi245_0⟩ := at_L1 (Kd.S_reads' HO_7.out).2.2 x11_3 p245 q245
                                                    cases e245
                                                    obtain ⟨ce245, hce245, hMe245, hcc245⟩ := Kd.S_get HO_7.out [] x11_3 p245 (by first | exact q245 | exact of_decide_eq_true (by first | (with_reducible assumption) | assumption) | (have e_ := (Kd.S_reads' HO_7.out).1; omega))
                                                    obtain ⟨ve245_0, rfl, ge245_0⟩ := hMe245
                                                    have hv245_0 := hcc245 0 _ rfl
                                                    rw [Nat.add_zero, show ((Kd.slice 3 (Kd.int .i64))).sz = 1 from rfl, Nat.mul_one] at hv245_0
                                                    replace hv245_0 := Option.some.inj (hv245_0.symm.trans hx245_0)
                                                    rw [hv245_0] at ge245_0
                                                    have HL245_0 := Aside0.mk (show Kd.R (Kd.int .i64) 3 _ _ _ _ (rd_L1 t230 x11_3) from ge245_0)
                                                    clear hv245_0 ge245_0
                                                    clear hcc245 hce245
                                                    have HR245_0 := Aside0.mk hi245_0
                                                    have HC245_0 := Aside0.mk hl245_0
                                                    clear hi245_0 hl245_0
                                                    replace p245 := eq_true p245
                                                    replace q245 := eq_true q245
                                                    have p246 : 0 ≤ (x13_5 : Int) := of_decide_eq_true (by first | (with_reducible assumption) | assumption)
                                                    have q246 : x13_5 < ((rd_L1 t230 x11_3).length : Int) := of_decide_eq_true (by first | (with_reducible assumption) | assumption)
                                                    obtain ⟨ad246, e246, hx246_0⟩ := Kd.at_int (by repeat (first | (with_reducible exact HR245_0.out) | (with_reducible refine Kd.C_alloc ?_ _) | (with_reducible refine Kd.C_drewN ?_ _) | (with_reducible refine Kd.C_drew ?_) | exact HR245_0.out)) x13_5 p246 q246
                                                    cases e246
                                                    replace p246 := eq_true p246
                                                    replace q246 := eq_true q246
                                                    have p247 : 0 ≤ (x13_5 : Int) := of_decide_eq_true (by first | (with_reducible assumption) | assumption)
                                                    have q247 : x13_5 < (l0.length : Int) := of_decide_eq_true (by first | (with_reducible assumption) | assumption)
                                                    obtain ⟨ad247, e247, hx247_0⟩ := Kd.at_int HR0.out x13_5 p247 q247
                                                    cases e247
                                                    replace hx247_0 := (HB.out.cell (World.block_lt_of_cell? w _ hx247_0)).trans hx247_0
                                                    replace p247 := eq_true p247
                                                    replace q247 := eq_true q247
                                                    have p248 : 0 ≤ (x13_5 : Int) := of_decide_eq_true (by first | (with_reducible assumption) | assumption)
                                                    have q248 : x13_5 < (l0.length : Int) := of_decide_eq_true (by first | (with_reducible assumption) | assumption)
                                                    obtain ⟨ad248, e248, hx248_0⟩ := Kd.at_int HR0.out x13_5 p248 q248
                                                    obtain rfl : ad247 = ad248 := (by injection e248)
                                                    replace hx248_0 := (HB.out.cell (World.block_lt_of_cell? w _ hx248_0)).trans hx248_0
                                                    replace p248 := eq_true p248
                                                    replace q248 := eq_true q248
                                                    go_wp2
                                                    repeat (go_quiet (fail); try go_wp2)
                                                    go_roundg k5
                                                    case measure => have := HJ12.out; have := HJ24.out; have := HK3.out; have := HJ39.out; have := HK5.out; omega
                                                    case rel => exact ⟨(wrap64 (Int.tdiv x12_5 (rd l0 x13_5))), (wrap64 (x13_5 - 1)), (by first | rfl | (simp; done) | (simp [*]; done)), (by first | rfl | (simp; done) | (simp [*]; done)), H', ⟨by have := HJ12.out; have := HJ24.out; have := HK3.out; have := HJ39.out; have := HK5.out; omega⟩, ⟨by (with_reducible repeat (first | apply Kd.S_alloc | apply Kd.S_drewN | apply Kd.S_drew)); exact HO_7.out⟩, ⟨by (with_reducible repeat (first | apply Kd.R_alloc | apply Kd.R_drewN | apply Kd.R_drew)); exact HO_9.out⟩, ⟨by (with_reducible repeat (first | refine blk_drewN ?_ _ | refine blk_drew ?_ | refine blk_alloc ?_ _)); exact BK225.out⟩, ⟨by repeat (first | (with_reducible first | exact HB.out | apply below_alloc | apply pw_below_drewN | apply below_drew1 | refine below_set ?_ GE225.out) | exact HB.out)⟩⟩
                                                  · rw [if_neg c60] at H
                                                    have c60b0 : ((rd (rd_L1 t230 x11_3) x13_5) == (Int.tmod x12_5 (rd l0 x13_5))) = false := beq_eq_false_iff_ne.mpr c60
                                                    have c60b1 : ((rd (rd_L1 t230 x11_3) x13_5) != (Int.tmod x12_5 (rd l0 x13_5))) = true := bne_iff_ne.mpr c60
                                                    obtain rfl := Option.some.inj H
                                                    have p245 : 0 ≤ (x11_3 : Int) := of_decide_eq_true (by first | (with_reducible assumption) | assumption)
                                                    have q245 : x11_3 < (t230.length : Int) := of_decide_eq_true (by first | (with_reducible assumption) | assumption)
                                                    obtain ⟨ad245, A245_0, c245_0, e245, hx245_0, hl245_0, hi245_0⟩ := at_L1 (Kd.S_reads' HO_7.out).2.2 x11_3 p245 q245
                                                    cases e245
                                                    obtain ⟨ce245, hce245, hMe245, hcc245⟩ := Kd.S_get HO_7.out [] x11_3 p245 (by first | exact q245 | exact of_decide_eq_true (by first | (with_reducible assumption) | assumption) | (have e_ := (Kd.S_reads' HO_7.out).1; omega))
                                                    obtain ⟨ve245_0, rfl, ge245_0⟩ := hMe245
                                                    have hv245_0 := hcc245 0 _ rfl
                                                    rw [Nat.add_zero, show ((Kd.slice 3 (Kd.int .i64))).sz = 1 from rfl, Nat.mul_one] at hv245_0
                                                    replace hv245_0 := Option.some.inj (hv245_0.symm.trans hx245_0)
                                                    rw [hv245_0] at ge245_0
                                                    have HL245_0 := Aside0.mk (show Kd.R (Kd.int .i64) 3 _ _ _ _ (rd_L1 t230 x11_3) from ge245_0)
                                                    clear hv245_0 ge245_0
                                                    clear hcc245 hce245
                                                    have HR245_0 := Aside0.mk hi245_0
                                                    have HC245_0 := Aside0.mk hl245_0
                                                    clear hi245_0 hl245_0
                                                    replace p245 := eq_true p245
                                                    replace q245 := eq_true q245
                                                    have p246 : 0 ≤ (x13_5 : Int) := of_decide_eq_true (by first | (with_reducible assumption) | assumption)
                                                    have q246 : x13_5 < ((rd_L1 t230 x11_3).length : Int) := of_decide_eq_true (by first | (with_reducible assumption) | assumption)
                                                    obtain ⟨ad246, e246, hx246_0⟩ := Kd.at_int (by repeat (first | (with_reducible exact HR245_0.out) | (with_reducible refine Kd.C_alloc ?_ _) | (with_reducible refine Kd.C_drewN ?_ _) | (with_reducible refine Kd.C_drew ?_) | exact HR245_0.out)) x13_5 p246 q246
                                                    cases e246
                                                    replace p246 := eq_true p246
                                                    replace q246 := eq_true q246
                                                    have p247 : 0 ≤ (x13_5 : Int) := of_decide_eq_true (by first | (with_reducible assumption) | assumption)
                                                    have q247 : x13_5 < (l0.length : Int) := of_decide_eq_true (by first | (with_reducible assumption) | assumption)
                                                    obtain ⟨ad247, e247, hx247_0⟩ := Kd.at_int HR0.out x13_5 p247 q247
                                                    cases e247
                                                    replace hx247_0 := (HB.out.cell (World.block_lt_of_cell? w _ hx247_0)).trans hx247_0
                                                    replace p247 := eq_true p247
                                                    replace q247 := eq_true q247
                                                    go_wp2
                                                    repeat (go_quiet (fail); try go_wp2)
                                                    go_ret
                                                    exact ⟨by first | rfl | (simp [errW_none, errW_some] <;> rfl) | (simp [*, errW_none, errW_some] <;> rfl), by repeat (first | (with_reducible first | exact HB.out | apply below_alloc | apply pw_below_drewN | apply below_drew1 | refine below_set ?_ GE225.out) | exact HB.out)⟩
                                              · rw [if_neg c58] at H
                                                exact absurd H (by simp)
                                            · rw [if_neg c57] at H
                                              exact absurd H (by simp)
                                          · rw [if_neg c56] at H
                                            exact absurd H (by simp)
                                        · rw [if_neg c55] at H
                                          exact absurd H (by simp)
                                      · rw [if_neg c54] at H
                                        exact absurd H (by simp)
                                    · rw [if_neg c53] at H
                                      have c53b0 : decide (0 ≤ x13_5) = false := decide_eq_false c53
                                      clear c53
                                      have H' := Aside0.mk H
                                      clear H
                                      go_wp2
                                      repeat (go_quiet (fail); try go_wp2)
                                      go_roundg k5
                                      case measure => have := HJ12.out; have := HJ24.out; have := HK3.out; have := HJ39.out; have := HK5.out; omega
                                      case rel => exact ⟨(wrap64 (x11_3 + 1)), (by first | rfl | (simp; done) | (simp [*]; done)), H', ⟨by have := HJ12.out; have := HJ24.out; have := HK3.out; have := HJ39.out; have := HK5.out; omega⟩, ⟨by (with_reducible repeat (first | apply Kd.S_alloc | apply Kd.S_drewN | apply Kd.S_drew)); exact HO_7.out⟩, ⟨by (with_reducible repeat (first | apply Kd.R_alloc | apply Kd.R_drewN | apply Kd.R_drew)); exact HO_9.out⟩, ⟨by (with_reducible repeat (first | refine blk_drewN ?_ _ | refine blk_drew ?_ | refine blk_alloc ?_ _)); exact BK225.out⟩, ⟨by repeat (first | (with_reducible first | exact HB.out | apply below_alloc | apply pw_below_drewN | apply below_drew1 | refine below_set ?_ GE225.out) | exact HB.out)⟩⟩
                              · rw [if_neg c51] at H
                                exact absurd H (by simp)
                            · rw [if_neg c50] at H
                              exact absurd H (by simp)
                    · rw [if_neg c39] at H
                      have c39b0 : decide (x11_3 < (t230.length : Int)) = false := decide_eq_false c39
                      clear c39
                      replace H := Option.bind_eq_some_iff.mp H
                      obtain ⟨t240, A610, H⟩ := H
                      replace H : (some t240) = some r := H
                      have A61 := Aside0.mk A610
                      clear A610
                      obtain rfl := Option.some.inj H
                      obtain ⟨Ao62, co62, eo62⟩ := Kd.S_slice HO_7.out
                      subst eo62
                      go_wp2_with (first | (go_at_call 13; (with_reducible refine (slabvaultlaw12_lives.calls k3  t240 _ A61.out).mono ?_); rintro e w63 ⟨rfl, hb⟩; have n0_ := Aside0.mk (Kd.S_below (by (with_reducible repeat (first | apply Kd.S_alloc | apply Kd.S_drewN | apply Kd.S_drew)); exact HO_7.out) hb); have n1_ := Aside0.mk (Kd.R_below (by (with_reducible repeat (first | apply Kd.R_alloc | apply Kd.R_drewN | apply Kd.R_drew)); exact HO_9.out) hb); have n2_ := Aside0.mk (blk_below (g := gb225) (o := .cells #[.int .i64 a1_0, .slice A1_1 l1_1.length c1_1, .slice A1_2 l1_2.length c1_2, .slice A1_3 l1_3.length c1_3, .slice A1_4 l1_4.length c1_4, .slice A1_5 l1_5.length c1_5] 33 (0, 0)) (by (with_reducible repeat (first | refine blk_drewN ?_ _ | refine blk_drew ?_ | refine blk_alloc ?_ _)); exact BK225.out) hb); have n3_ := Aside0.mk (below_step (by repeat (first | (with_reducible first | exact HB.out | apply below_alloc | apply pw_below_drewN | apply below_drew1 | refine below_set ?_ GE225.out) | exact HB.out)) hb); clear HO_7; clear HO_9; clear BK225; clear HB; have HO_7 := n0_; have HO_9 := n1_; have BK225 := n2_; have HB := n3_; clear n0_ n1_ n2_ n3_; (try clear hb); (try clear hb2); (try clear hk); (try clear hi)))
                      repeat (go_quiet (first | (go_at_call 13; (with_reducible refine (slabvaultlaw12_lives.calls k3  t240 _ A61.out).mono ?_); rintro e w63 ⟨rfl, hb⟩; have n0_ := Aside0.mk (Kd.S_below (by (with_reducible repeat (first | apply Kd.S_alloc | apply Kd.S_drewN | apply Kd.S_drew)); exact HO_7.out) hb); have n1_ := Aside0.mk (Kd.R_below (by (with_reducible repeat (first | apply Kd.R_alloc | apply Kd.R_drewN | apply Kd.R_drew)); exact HO_9.out) hb); have n2_ := Aside0.mk (blk_below (g := gb225) (o := .cells #[.int .i64 a1_0, .slice A1_1 l1_1.length c1_1, .slice A1_2 l1_2.length c1_2, .slice A1_3 l1_3.length c1_3, .slice A1_4 l1_4.length c1_4, .slice A1_5 l1_5.length c1_5] 33 (0, 0)) (by (with_reducible repeat (first | refine blk_drewN ?_ _ | refine blk_drew ?_ | refine blk_alloc ?_ _)); exact BK225.out) hb); have n3_ := Aside0.mk (below_step (by repeat (first | (with_reducible first | exact HB.out | apply below_alloc | apply pw_below_drewN | apply below_drew1 | refine below_set ?_ GE225.out) | exact HB.out)) hb); clear HO_7; clear HO_9; clear BK225; clear HB; have HO_7 := n0_; have HO_9 := n1_; have BK225 := n2_; have HB := n3_; clear n0_ n1_ n2_ n3_; (try clear hb); (try clear hb2); (try clear hk); (try clear hi))); try go_wp2_with (first | (go_at_call 13; (with_reducible refine (slabvaultlaw12_lives.calls k3  t240 _ A61.out).mono ?_); rintro e w63 ⟨rfl, hb⟩; have n0_ := Aside0.mk (Kd.S_below (by (with_reducible repeat (first | apply Kd.S_alloc | apply Kd.S_drewN | apply Kd.S_drew)); exact HO_7.out) hb); have n1_ := Aside0.mk (Kd.R_below (by (with_reducible repeat (first | apply Kd.R_alloc | apply Kd.R_drewN | apply Kd.R_drew)); exact HO_9.out) hb); have n2_ := Aside0.mk (blk_below (g := gb225) (o := .cells #[.int .i64 a1_0, .slice A1_1 l1_1.length c1_1, .slice A1_2 l1_2.length c1_2, .slice A1_3 l1_3.length c1_3, .slice A1_4 l1_4.length c1_4, .slice A1_5 l1_5.length c1_5] 33 (0, 0)) (by (with_reducible repeat (first | refine blk_drewN ?_ _ | refine blk_drew ?_ | refine blk_alloc ?_ _)); exact BK225.out) hb); have n3_ := Aside0.mk (below_step (by repeat (first | (with_reducible first | exact HB.out | apply below_alloc | apply pw_below_drewN | apply below_drew1 | refine below_set ?_ GE225.out) | exact HB.out)) hb); clear HO_7; clear HO_9; clear BK225; clear HB; have HO_7 := n0_; have HO_9 := n1_; have BK225 := n2_; have HB := n3_; clear n0_ n1_ n2_ n3_; (try clear hb); (try clear hb2); (try clear hk); (try clear hi))))
                      go_ret
                      exact ⟨by first | rfl | (simp [errW_none, errW_some] <;> rfl) | (simp [*, errW_none, errW_some] <;> rfl), by repeat (first | (with_reducible first | exact HB.out | apply below_alloc | apply pw_below_drewN | apply below_drew1 | refine below_set ?_ GE225.out) | exact HB.out)⟩
end Go.Proofs.Ytjbjofmcmjojlaa.Wk
end
section
namespace Go.Proofs.Ytjbjofmcmjojlaa.Wk
open Go.RowKit Go.Proofs.YtjbjofmcmjojlaaW.PrintWords Go.Proofs.YtjbjofmcmjojlaaW.PrintLast Go.Proofs.YtjbjofmcmjojlaaW.PrintMore
attribute [local go_sem] max2_int min2_int max_two min_two max_three min_three max_four min_four
set_option linter.unusedVariables false
set_option linter.unusedSimpArgs false
mutual
def slabvaultref12_Elements.l0 : Nat → List Int → Int → Int → Option (Int × Int)
  | 0, _, _, _ => none
  | k + 1, x0, x4, x5 => if x5 < (x0.length : Int) then (if 0 ≤ x5 then (if (rd x0 x5) < 0 then (some (0, 2)) else (if (rd x0 x5) > 1048576 then (some (0, 2)) else (slabvaultref12_Elements.l0 k x0 x4 (wrap64 (x5 + 1))))) else (none)) else (slabvaultref12_Elements.l1 k x0 x4 0)
def slabvaultref12_Elements.l1 : Nat → List Int → Int → Int → Option (Int × Int)
  | 0, _, _, _ => none
  | k + 1, x0, x4, x6 => if x6 < (x0.length : Int) then (if 0 ≤ x6 then (if (rd x0 x6) = 0 then (some (0, 0)) else (slabvaultref12_Elements.l1 k x0 x4 (wrap64 (x6 + 1)))) else (none)) else (slabvaultref12_Elements.l2 k x0 x4 0)
def slabvaultref12_Elements.l2 : Nat → List Int → Int → Int → Option (Int × Int)
  | 0, _, _, _ => none
  | k + 1, x0, x4, x7 => if x7 < (x0.length : Int) then (if 0 ≤ x7 then (if (wrap64 (x4 * (rd x0 x7))) > 1048576 then (some (0, 3)) else (slabvaultref12_Elements.l2 k x0 (wrap64 (x4 * (rd x0 x7))) (wrap64 (x7 + 1)))) else (none)) else (some (x4, 0))
end
def slabvaultref12_Elements.f (k : Nat) (l0 : List Int) : Option (Int × Int) := if (l0.length : Int) > 4 then (some (0, 2)) else (slabvaultref12_Elements.l0 k l0 1 0)
end Go.Proofs.Ytjbjofmcmjojlaa.Wk
end
section
namespace Go.Proofs.Ytjbjofmcmjojlaa.Wk
open Go.RowKit Go.Proofs.YtjbjofmcmjojlaaW.PrintWords Go.Proofs.YtjbjofmcmjojlaaW.PrintLast Go.Proofs.YtjbjofmcmjojlaaW.PrintMore
attribute [local go_sem] max2_int min2_int max_two min_two max_three min_three max_four min_four
set_option linter.unusedVariables false
set_option linter.unusedSimpArgs false
def slabvaultlaw12_SpaceElements.f (k : Nat) (l0 : List Int) : Option (Bool) := (space_Elements.f l0).bind fun bt208 => ((slabvaultref12_Elements.f k l0).bind fun bt210 => (if bt208.1 = bt210.1 then (if bt208.2 = bt210.2 then ((slabvaultlaw12_lives.f k).bind fun t212 => (some t212)) else (some false)) else (some false)))
def slabvaultlaw12_SpaceElements.Pure : Prop := ∀ (l0 : List Int), l0.length ≤ maxLen → l0.length * 8 ≤ 140737488351232 → (∀ x ∈ l0, (Lit.int .i64 x).wf = true) → ∃ k, slabvaultlaw12_SpaceElements.f k l0 = some true
end Go.Proofs.Ytjbjofmcmjojlaa.Wk
end
section
namespace Go.Proofs.Ytjbjofmcmjojlaa.Pure
open Go.RowKit Go.Proofs.Ytjbjofmcmjojlaa.Wk Go.Proofs.YtjbjofmcmjojlaaW.PrintWords Go.Proofs.YtjbjofmcmjojlaaW.PrintLast
theorem wrap_up {i : Nat} {n : Nat} (h : i < n) (hn : n ≤ 9223372036854775807) : wrap64 ((i : Int) + 1) = ((i + 1 : Nat) : Int) := by unfold wrap64; omega
theorem rd_nat (l : List Int) (i : Nat) (h : i < l.length) : rd l (i : Int) = l[i] := by simp [rd, h]
theorem lives_ev : Ev (fun k => slabvaultlaw12_lives.f k) true := Ev.of (fun k => slabvaultlaw12_lives.mono k) (k := 60) (by decide +kernel)
def elemsT (l0 : List Int) : Int × Int := if 4 < l0.length ∨ l0.any badDim = true then (0, 2) else if l0.contains 0 = true then (0, 0) else prodLoop l0 l0.length 0 1
theorem elements_eq (l : List Int) : space_Elements.f l = some (elemsT l) := rfl
end Go.Proofs.Ytjbjofmcmjojlaa.Pure
end
section
namespace Go.Proofs.Ytjbjofmcmjojlaa.Pure
open Go.RowKit Go.Proofs.Ytjbjofmcmjojlaa.Wk Go.Proofs.YtjbjofmcmjojlaaW.PrintWords Go.Proofs.YtjbjofmcmjojlaaW.PrintLast Go.Proofs.YtjbjofmcmjojlaaQ
def Fit (l : List Int) : Prop := l.length ≤ 9223372036854775807 ∧ ∀ x ∈ l, -9223372036854775808 ≤ x ∧ x ≤ 9223372036854775807
theorem Fit.rd {l : List Int} (h : Fit l) (i : Nat) (hi : i < l.length) : -9223372036854775808 ≤ rd l i ∧ rd l i ≤ 9223372036854775807 := by
  rw [rd_nat l i hi]
  exact h.2 _ (List.getElem_mem hi)
def manyT (l : List Int) : Int := if l.contains 0 = true then 0 else manyLoop l l.length 0 1
def beyondT (dim start stride cnt blk : Int) : Bool := decide (dim - start < blk) || (decide (0 < stride) && decide (cnt - 1 > (dim - start - blk) / stride))
def outAt (l0 x : List Int) (i : Nat) : Bool := (List.range' i (x.length - i)).any fun d => decide (rd x d ≥ rd l0 d)
def outT (l0 : List Int) (pts : List (List Int)) : Bool := pts.any fun x => outAt l0 x 0
def beyondAt (l0 start stride cnt blk : List Int) (i : Nat) : Bool := (List.range' i (l0.length - i)).any fun d => beyondT (rd l0 d) (rd start d) (rd stride d) (rd cnt d) (rd blk d)
def capT (n : Int) : Int × Int := if n > 4096 then (0, 18) else (n, 0)
def slabR (r : Nat) (start stride cnt blk : List Int) : Bool := [start, stride, cnt, blk].all (rightOne r)
def measuredT (l0 : List Int) (kind : Int) (pts : List (List Int)) (start stride cnt blk : List Int) : Int × Int :=
  if (elemsT l0).2 = 0 then
    if kind = 1 then capT (elemsT l0).1
    else if kind = 2 ∧ pts.all (rightOne l0.length) = true then (if outT l0 pts = true then (0, 17) else capT pts.length)
    else if kind = 3 ∧ slabR l0.length start stride cnt blk = true then
      (if manyT (cnt ++ blk) > 0 ∧ beyondAt l0 start stride cnt blk 0 = true then (0, 17) else capT (manyT (cnt ++ blk)))
    else (0, 2)
  else (0, (elemsT l0).2)
theorem range'_any_succ (p : Nat → Bool) (i n : Nat) (h : i < n) : (List.range' i (n - i)).any p = (p i || (List.range' (i + 1) (n - (i + 1))).any p) := by
  rw [show n - i = (n - (i + 1)) + 1 by omega, List.range'_succ, List.any_cons]
theorem beyond_eq {dim start stride cnt blk : Int} (h1 : 0 ≤ dim ∧ dim ≤ 1048576) (h2 : 0 ≤ start ∧ start ≤ 9223372036854775807) (h3 : 0 ≤ stride) (h4 : 0 ≤ cnt ∧ cnt ≤ 9223372036854775807) (h5 : 0 ≤ blk ∧ blk ≤ 9223372036854775807) :
    space_beyond.f dim start stride cnt blk = some (beyondT dim start stride cnt blk) := by
  unfold space_beyond.f beyondT
  have w1 : wrap64 (dim - start) = dim - start := by unfold wrap64; omega
  rw [w1]
  by_cases c : dim - start < blk
  · rw [if_pos c]
    simp [c]
  · rw [if_neg c]
    have w2 : wrap64 (dim - start - blk) = dim - start - blk := by unfold wrap64; omega
    have w3 : wrap64 (cnt - 1) = cnt - 1 := by unfold wrap64; omega
    rw [w2, w3]
    by_cases d : stride > 0
    · rw [if_pos d, if_neg (by omega), Int.tdiv_eq_ediv_of_nonneg (by omega)]
      have q0 : 0 ≤ (dim - start - blk) / stride := Int.ediv_nonneg (by omega) (by omega)
      have q1 : (dim - start - blk) / stride ≤ dim - start - blk := Int.ediv_le_self _ (by omega)
      have w4 : wrap64 ((dim - start - blk) / stride) = (dim - start - blk) / stride := by unfold wrap64; omega
      rw [w4]
      simp [c, d]
    · rw [if_neg d]
      simp [c, d]
theorem meas_l1 (l0 : List Int) (n : Int) (pts : List (List Int)) (hp : pts.length ≤ 9223372036854775807) (x : List Int) (hx : x.length = l0.length) (hm : l0.length ≤ 9223372036854775807) (m : Nat)
    (r : Int × Int) (hr : Ev (fun k => space_measured.l0 k l0 n pts pts.length ((m + 1 : Nat) : Int)) r) (hmp : m < pts.length) : ∀ (d i : Nat), x.length - i = d → i ≤ x.length →
    Ev (fun k => space_measured.l1 k l0 n pts pts.length m x x.length i) (if outAt l0 x i = true then (0, 17) else r) := by
  intro d
  induction d with
  | zero =>
    intro i h hi
    have e : outAt l0 x i = false := by unfold outAt; rw [show x.length - i = 0 by omega]; rfl
    rw [e]
    refine Ev.step (f := fun k => space_measured.l0 k l0 n pts pts.length ((m + 1 : Nat) : Int)) (fun k => ?_) hr
    simp only [space_measured.l1]
    rw [if_neg (by omega), wrap_up hmp hp]
  | succ d ih =>
    intro i h hi
    have hlt : i < x.length := by omega
    have e : outAt l0 x i = (decide (rd x i ≥ rd l0 i) || outAt l0 x (i + 1)) := range'_any_succ _ _ _ hlt
    rw [e]
    by_cases c : rd x i ≥ rd l0 i
    · refine Ev.step (f := fun _ => some (0, 17)) (fun k => ?_) (by rw [decide_eq_true c]; exact Ev.now _)
      simp only [space_measured.l1]
      rw [if_pos (by omega), if_pos (by omega), if_pos (by omega), if_pos (by omega), if_pos c]
    · refine Ev.step (f := fun k => space_measured.l1 k l0 n pts pts.length m x x.length ((i + 1 : Nat) : Int)) (fun k => ?_) (by rw [decide_eq_false c, Bool.false_or]; exact ih (i + 1) (by omega) (by omega))
      simp only [space_measured.l1]
      rw [if_pos (by omega), if_pos (by omega), if_pos (by omega), if_pos (by omega), if_neg c, wrap_up hlt (by omega)]
theorem meas_l0 (l0 : List Int) (n : Int) (pts : List (List Int)) (hp : pts.length ≤ 9223372036854775807) (hm : l0.length ≤ 9223372036854775807) (hr : ∀ x ∈ pts, x.length = l0.length) : ∀ (d i : Nat), pts.length - i = d → i ≤ pts.length →
    Ev (fun k => space_measured.l0 k l0 n pts pts.length i) (if (pts.drop i).any (fun x => outAt l0 x 0) = true then (0, 17) else capT n) := by
  intro d
  induction d with
  | zero =>
    intro i h hi
    rw [List.drop_eq_nil_of_le (by omega)]
    refine Ev.step (f := fun _ => some (capT n)) (fun k => ?_) (by rw [if_neg (by simp)]; exact Ev.now _)
    simp only [space_measured.l0]
    rw [if_neg (by omega)]
    unfold capT
    split <;> rfl
  | succ d ih =>
    intro i h hi
    have hlt : i < pts.length := by omega
    have hx : rd_L1 pts i = pts[i] := by simp [rd_L1, List.getD_eq_getElem?_getD, hlt]
    have hl := hr _ (List.getElem_mem hlt)
    rw [List.drop_eq_getElem_cons hlt, List.any_cons]
    refine Ev.step (f := fun k => space_measured.l1 k l0 n pts pts.length i pts[i] (pts[i].length : Int) ((0 : Nat) : Int)) (fun k => ?_) ?_
    · simp only [space_measured.l0]
      rw [if_pos (by omega), if_pos (by omega), if_pos (by omega), hx]
      rfl
    · have := meas_l1 l0 n pts hp pts[i] hl hm i _ (ih (i + 1) (by omega) (by omega)) hlt pts[i].length 0 (by omega) (by omega)
      cases c : outAt l0 pts[i] 0 with
      | true => rw [c] at this; simpa using this
      | false => rw [c] at this; simpa using this
theorem meas_l2 (l0 : List Int) (n kind : Int) (pts : List (List Int)) (start stride cnt blk : List Int) (hm : l0.length ≤ 9223372036854775807) (h0 : l0.any badDim = false)
    (e1 : start.length = l0.length) (e2 : stride.length = l0.length) (e3 : cnt.length = l0.length) (e4 : blk.length = l0.length)
    (f1 : ∀ d : Nat, d < l0.length → 0 ≤ rd start d ∧ rd start d ≤ 9223372036854775807) (f2 : ∀ d : Nat, d < l0.length → 0 ≤ rd stride d) (f3 : ∀ d : Nat, d < l0.length → 0 ≤ rd cnt d ∧ rd cnt d ≤ 9223372036854775807) (f4 : ∀ d : Nat, d < l0.length → 0 ≤ rd blk d ∧ rd blk d ≤ 9223372036854775807) :
    ∀ (d i : Nat), l0.length - i = d → i ≤ l0.length →
    Ev (fun k => space_measured.l2 k l0 n l0.length i kind pts start stride cnt blk) (if n > 0 ∧ beyondAt l0 start stride cnt blk i = true then (0, 17) else capT n) := by
  intro d
  induction d with
  | zero =>
    intro i h hi
    have e : beyondAt l0 start stride cnt blk i = false := by unfold beyondAt; rw [show l0.length - i = 0 by omega]; rfl
    rw [e, if_neg (by simp)]
    refine Ev.step (f := fun _ => some (capT n)) (fun k => ?_) (Ev.now _)
    simp only [space_measured.l2]
    rw [if_neg (by omega)]
    unfold capT
    split <;> rfl
  | succ d ih =>
    intro i h hi
    have hlt : i < l0.length := by omega
    have e : beyondAt l0 start stride cnt blk i = (beyondT (rd l0 i) (rd start i) (rd stride i) (rd cnt i) (rd blk i) || beyondAt l0 start stride cnt blk (i + 1)) := range'_any_succ _ _ _ hlt
    have hb := beyond_eq (good_rd h0 i hlt) (f1 i hlt) (f2 i hlt) (f3 i hlt) (f4 i hlt)
    rw [e]
    by_cases c : n > 0
    · refine Ev.step (f := fun k => if beyondT (rd l0 i) (rd start i) (rd stride i) (rd cnt i) (rd blk i) = true then some (0, 17) else space_measured.l2 k l0 n l0.length ((i + 1 : Nat) : Int) kind pts start stride cnt blk) (fun k => ?_) ?_
      · simp only [space_measured.l2]
        rw [if_pos (by omega), if_pos c, if_pos (by omega), if_pos (by omega), if_pos (by omega), if_pos (by omega), if_pos (by omega), if_pos (by omega), hb, Option.bind_some, wrap_up hlt hm]
      · cases b : beyondT (rd l0 i) (rd start i) (rd stride i) (rd cnt i) (rd blk i) with
        | true => simp only [if_true, Bool.true_or, and_true]; rw [if_pos c]; exact Ev.now _
        | false => simp only [Bool.false_eq_true, if_false, Bool.false_or]; exact ih (i + 1) (by omega) (by omega)
    · refine Ev.step (f := fun k => space_measured.l2 k l0 n l0.length ((i + 1 : Nat) : Int) kind pts start stride cnt blk) (fun k => ?_) ?_
      · simp only [space_measured.l2]
        rw [if_pos (by omega), if_neg c, wrap_up hlt hm]
      · have := ih (i + 1) (by omega) (by omega)
        rw [if_neg (fun h => c h.1)] at this ⊢
        exact this
theorem right_nonneg {l : List Int} {r : Nat} (h : rightOne r l = true) : l.length = r ∧ l.any negDim = false := by
  unfold rightOne at h
  rw [Bool.and_eq_true, decide_eq_true_eq, Bool.not_eq_true'] at h
  exact ⟨by omega, h.2⟩
theorem neg_rd {l : List Int} (h : l.any negDim = false) (i : Nat) (hi : i < l.length) : 0 ≤ rd l i := by
  rw [rd_nat l i hi]
  have := List.any_eq_false.1 h l[i] (List.getElem_mem hi)
  simp [negDim] at this
  omega
theorem many_eq {l : List Int} (h : l.length ≤ 9223372036854775807) (hn : l.any negDim = false) : space_many.f 1 l = some (manyT l) := by
  unfold space_many.f manyT
  rw [if_pos ⟨rfl, by unfold maxLen; omega, hn⟩]
theorem right_eq {a : Int} {l : List (List Int)} (h : l.length ≤ 9223372036854775807) (hl : ∀ x ∈ l, x.length ≤ 9223372036854775807) : space_right.f a l = some (l.all (rightOne a)) := by
  unfold space_right.f
  rw [if_pos ⟨by unfold maxLen; omega, fun x hx => by have := hl x hx; unfold maxLen; omega⟩]
theorem measured_ev (l0 : List Int) (kind : Int) (pts : List (List Int)) (start stride cnt blk : List Int) (h0 : Fit l0) (h1 : pts.length ≤ 9223372036854775807) (h1' : ∀ x ∈ pts, x.length ≤ 9223372036854775807)
    (h2 : Fit start) (h3 : Fit stride) (h4 : Fit cnt) (h5 : Fit blk) : Ev (fun k => space_measured.f k l0 kind pts start stride cnt blk) (measuredT l0 kind pts start stride cnt blk) := by
  unfold space_measured.f measuredT
  rw [elements_eq]
  simp only [Option.bind_some]
  by_cases he : (elemsT l0).2 = 0
  · rw [if_pos he]
    simp only [if_pos he]
    have hgood : l0.length ≤ 4 ∧ l0.any badDim = false := by
      unfold elemsT at he
      by_cases c : 4 < l0.length ∨ l0.any badDim = true
      · rw [if_pos c] at he; simp at he
      · rw [not_or] at c
        exact ⟨by omega, by simpa using c.2⟩
    by_cases k1 : kind = 1
    · rw [if_pos k1]
      simp only [if_pos k1]
      unfold capT
      split <;> exact Ev.now _
    · rw [if_neg k1]
      simp only [if_neg k1]
      by_cases k2 : kind = 2
      · subst k2
        rw [right_eq h1 h1']
        simp only [if_true, Option.bind_some]
        cases hr : pts.all (rightOne (l0.length : Int)) with
        | true =>
          rw [if_pos ⟨trivial, rfl⟩]
          refine Ev.step (f := fun k => space_measured.l0 k l0 pts.length pts pts.length ((0 : Nat) : Int)) (fun k => ?_) ?_
          · simp only [space_measured.j0, if_true]
            rfl
          · have hlen : ∀ x ∈ pts, x.length = l0.length := fun x hx => (right_nonneg (List.all_eq_true.1 hr x hx)).1
            have := meas_l0 l0 pts.length pts h1 h0.1 hlen pts.length 0 (by omega) (by omega)
            rw [List.drop_zero] at this
            exact this
        | false =>
          rw [if_neg (by simp), if_neg (by simp)]
          refine Ev.step (f := fun k => space_measured.j3 k l0 false 2 pts start stride cnt blk) (fun k => ?_) ?_
          · simp only [space_measured.j0]
            rw [if_neg (by simp), if_neg (by omega)]
          · refine Ev.step (f := fun _ => some (0, 2)) (fun k => ?_) (Ev.now _)
            simp only [space_measured.j3]
            rw [if_neg (by simp)]
      · rw [if_neg (fun h => k2 h.1)]
        simp only [if_neg k2]
        by_cases k3 : kind = 3
        · subst k3
          have hr4 : space_right.f (l0.length : Int) [start, stride, cnt, blk] = some (slabR l0.length start stride cnt blk) := right_eq (by simp) (by
            intro x hx
            simp only [List.mem_cons, List.not_mem_nil, or_false] at hx
            rcases hx with rfl | rfl | rfl | rfl
            · exact h2.1
            · exact h3.1
            · exact h4.1
            · exact h5.1)
          refine Ev.step (f := fun k => space_measured.j3 k l0 (slabR l0.length start stride cnt blk) 3 pts start stride cnt blk) (fun k => ?_) ?_
          · simp only [space_measured.j0]
            rw [if_neg (by simp), if_pos trivial, hr4, Option.bind_some]
          · cases hs : slabR l0.length start stride cnt blk with
            | false =>
              rw [if_neg (by simp)]
              refine Ev.step (f := fun _ => some (0, 2)) (fun k => ?_) (Ev.now _)
              simp only [space_measured.j3]
              rw [if_neg (by simp)]
            | true =>
              rw [if_pos ⟨rfl, rfl⟩]
              unfold slabR at hs
              simp only [List.all_cons, List.all_nil, Bool.and_true, Bool.and_eq_true] at hs
              obtain ⟨r1, r2, r3, r4⟩ := hs
              obtain ⟨e1, n1⟩ := right_nonneg r1
              obtain ⟨e2, n2⟩ := right_nonneg r2
              obtain ⟨e3, n3⟩ := right_nonneg r3
              obtain ⟨e4, n4⟩ := right_nonneg r4
              have hcl : slices_Clone_int_int.f cnt = some cnt := by unfold slices_Clone_int_int.f; rw [if_pos (by omega)]
              have hmy := many_eq (l := cnt ++ blk) (by rw [List.length_append]; omega) (by rw [List.any_append, n3, n4]; rfl)
              refine Ev.step (f := fun k => space_measured.l2 k l0 (manyT (cnt ++ blk)) l0.length ((0 : Nat) : Int) 3 pts start stride cnt blk) (fun k => ?_) ?_
              · simp only [space_measured.j3, if_true]
                rw [hcl, Option.bind_some, if_pos (by omega), hmy, Option.bind_some]
                rfl
              · exact meas_l2 l0 _ 3 pts start stride cnt blk h0.1 hgood.2 e1 e2 e3 e4 (fun d hd => ⟨neg_rd n1 d (by omega), (h2.rd d (by omega)).2⟩) (fun d hd => neg_rd n2 d (by omega))
                  (fun d hd => ⟨neg_rd n3 d (by omega), (h4.rd d (by omega)).2⟩) (fun d hd => ⟨neg_rd n4 d (by omega), (h5.rd d (by omega)).2⟩) l0.length 0 (by omega) (by omega)
        · rw [if_neg (fun h => k3 h.1)]
          refine Ev.step (f := fun k => space_measured.j3 k l0 false kind pts start stride cnt blk) (fun k => ?_) ?_
          · simp only [space_measured.j0]
            rw [if_neg (by simp), if_neg k3]
          · refine Ev.step (f := fun _ => some (0, 2)) (fun k => ?_) (Ev.now _)
            simp only [space_measured.j3]
            rw [if_neg (by simp)]
  · rw [if_neg he]
    simp only [if_neg he]
    exact Ev.now _
end Go.Proofs.Ytjbjofmcmjojlaa.Pure
end
section
namespace Go.Proofs.Ytjbjofmcmjojlaa.Pure
open Go.RowKit Go.Proofs.Ytjbjofmcmjojlaa.Wk Go.Proofs.YtjbjofmcmjojlaaW.PrintWords Go.Proofs.YtjbjofmcmjojlaaW.PrintLast Go.Proofs.YtjbjofmcmjojlaaQ
def lprod (l : List Int) : Int := l.foldr (· * ·) 1
def nprod (l : List Nat) : Nat := l.foldr (· * ·) 1
theorem lprod_cons (a : Int) (l : List Int) : lprod (a :: l) = a * lprod l := rfl
theorem nprod_cons (a : Nat) (l : List Nat) : nprod (a :: l) = a * nprod l := rfl
theorem lprod_append (a b : List Int) : lprod (a ++ b) = lprod a * lprod b := by
  induction a with
  | nil => simp [lprod]
  | cons x a ih => rw [List.cons_append, lprod_cons, lprod_cons, ih, Int.mul_assoc]
theorem lex_length : ∀ N, (lexList N).length = nprod N
  | [] => rfl
  | n :: N => by
    rw [lexList, nprod_cons, List.length_flatMap]
    simp only [List.length_map, lex_length N]
    rw [List.map_const', List.length_range]
    simp [List.sum_replicate_nat]
theorem drop_rd (l : List Int) (i : Nat) (h : i < l.length) : l.drop i = rd l i :: l.drop (i + 1) := by rw [List.drop_eq_getElem_cons h, rd_nat l i h]
theorem prodLoop_ok (l : List Int) : ∀ (d i : Nat) (n p : Int), l.length - i = d → i ≤ l.length → prodLoop l d i n = (p, 0) → p = n * lprod (l.drop i)
  | 0, i, n, p, h, hi, e => by
    rw [List.drop_eq_nil_of_le (by omega)]
    simp only [prodLoop, Prod.mk.injEq] at e
    simp [lprod, e.1]
  | d + 1, i, n, p, h, hi, e => by
    simp only [prodLoop] at e
    split at e
    · simp at e
    · rw [drop_rd l i (by omega), lprod_cons, ← Int.mul_assoc]
      exact prodLoop_ok l d (i + 1) _ p (by omega) (by omega) e
theorem prodLoop_le (l : List Int) : ∀ (d i : Nat) (n p : Int) (e : Int), n ≤ 1048576 → prodLoop l d i n = (p, e) → p ≤ 1048576 ∧ (e = 0 ∨ e = 3)
  | 0, i, n, p, e, hn, h => by
    simp only [prodLoop, Prod.mk.injEq] at h
    omega
  | d + 1, i, n, p, e, hn, h => by
    simp only [prodLoop] at h
    split at h
    · simp only [Prod.mk.injEq] at h
      omega
    · exact prodLoop_le l d (i + 1) _ p e (by omega) h
theorem manyLoop_ok (l : List Int) : ∀ (d i : Nat) (n : Int), l.length - i = d → i ≤ l.length → manyLoop l d i n ≤ 4096 → manyLoop l d i n = n * lprod (l.drop i)
  | 0, i, n, h, hi, e => by
    rw [List.drop_eq_nil_of_le (by omega)]
    simp [lprod, manyLoop]
  | d + 1, i, n, h, hi, e => by
    simp only [manyLoop] at e ⊢
    split at e
    · omega
    · rename_i c
      rw [if_neg c, drop_rd l i (by omega), lprod_cons, ← Int.mul_assoc]
      exact manyLoop_ok l d (i + 1) _ (by omega) (by omega) e
def Within (l0 x : List Int) : Prop := x.length = l0.length ∧ ∀ d : Nat, d < l0.length → 0 ≤ rd x d ∧ rd x d < rd l0 d
theorem lex_mem : ∀ (N s : List Nat), s ∈ lexList N → s.length = N.length ∧ ∀ d, d < N.length → s.getD d 0 < N.getD d 0
  | [], s, h => by simp [lexList] at h; subst h; simp
  | n :: N, s, h => by
    simp only [lexList, List.mem_flatMap, List.mem_range, List.mem_map] at h
    obtain ⟨i, hi, t, ht, rfl⟩ := h
    obtain ⟨h1, h2⟩ := lex_mem N t ht
    refine ⟨by simp [h1], fun d hd => ?_⟩
    cases d with
    | zero => simpa using hi
    | succ d => simpa using h2 d (by simpa using hd)
theorem tupAt_length (av : Nat → Nat → Int) (s : List Nat) : (tupAt av s).length = s.length := by simp [tupAt]
theorem tupAt_rd (av : Nat → Nat → Int) (s : List Nat) (d : Nat) (h : d < s.length) : rd (tupAt av s) d = av d (s.getD d 0) := by
  rw [rd_nat _ _ (by rw [tupAt_length]; exact h)]
  simp [tupAt]
def horn : List Int → List Int → Int
  | _ :: l, b :: x => b * lprod l + horn l x
  | _, _ => 0
def hornN : List Nat → List Nat → Nat
  | _ :: N, i :: s => i * nprod N + hornN N s
  | _, _ => 0
theorem lprod_pos {l : List Int} (h : ∀ x ∈ l, 1 ≤ x) : 1 ≤ lprod l := by
  induction l with
  | nil => simp [lprod]
  | cons a l ih =>
    rw [lprod_cons]
    have h1 := h a (by simp)
    have h2 := ih (fun x hx => h x (by simp [hx]))
    have : 1 * 1 ≤ a * lprod l := Int.mul_le_mul h1 h2 (by omega) (by omega)
    omega
theorem place_loop (l0 x : List Int) (hx : Within l0 x) (hd : ∀ y ∈ l0, 1 ≤ y) (L : Int) (hL : L ≤ 1048576) : ∀ (n d : Nat) (p : Int), l0.length - d = n → d ≤ l0.length → 0 ≤ p → (p + 1) * lprod (l0.drop d) ≤ L →
    placeW l0 x n d p = p * lprod (l0.drop d) + horn (l0.drop d) (x.drop d)
  | 0, d, p, h, hi, hp, hb => by
    rw [List.drop_eq_nil_of_le (by omega)]
    simp [placeW, horn, lprod]
  | n + 1, d, p, h, hi, hp, hb => by
    have hlt : d < l0.length := by omega
    obtain ⟨h1, h2⟩ := hx.2 d hlt
    simp only [placeW]
    rw [drop_rd l0 d hlt, lprod_cons] at hb
    rw [drop_rd l0 d hlt, drop_rd x d (by rw [hx.1]; exact hlt)]
    have hP : 1 ≤ lprod (l0.drop (d + 1)) := lprod_pos (fun y hy => hd y (List.mem_of_mem_drop hy))
    have ha : 1 ≤ rd l0 d := by omega
    generalize rd l0 d = a at *
    generalize rd x d = b at *
    generalize hq : lprod (l0.drop (d + 1)) = P at *
    have hpa : 0 ≤ p * a := Int.mul_nonneg hp (by omega)
    have e1 : (p + 1) * (a * P) = (p * a + a) * P := by rw [← Int.mul_assoc, Int.add_mul, Int.one_mul]
    have e2 : (p * a + b + 1) * P ≤ (p * a + a) * P := Int.mul_le_mul_of_nonneg_right (by omega) (by omega)
    have e3 : (p * a + b + 1) * P ≤ L := by omega
    have e4 : (p * a + b + 1) * 1 ≤ (p * a + b + 1) * P := Int.mul_le_mul_of_nonneg_left hP (by omega)
    have w1 : wrap64 (p * a) = p * a := by unfold wrap64; omega
    have w2 : wrap64 (p * a + b) = p * a + b := by unfold wrap64; omega
    have ih := place_loop l0 x hx hd L hL n (d + 1) (p * a + b) (by omega) (by omega) (by omega) (by rw [hq]; exact e3)
    rw [hq] at ih
    simp only [horn, lprod_cons, hq]
    rw [w1, w2, ih]
    rw [Int.add_mul, Int.mul_assoc, Int.add_assoc]
theorem place_eq (l0 x : List Int) (hx : Within l0 x) (hd : ∀ y ∈ l0, 1 ≤ y) (hL : lprod l0 ≤ 1048576) : placeOf l0 x = horn l0 x := by
  have := place_loop l0 x hx hd (lprod l0) hL l0.length 0 0 (by omega) (by omega) (by omega) (by simp)
  unfold placeOf
  rw [hx.1, this]
  simp
end Go.Proofs.Ytjbjofmcmjojlaa.Pure
end
section
namespace Go.Proofs.Ytjbjofmcmjojlaa.Pure
open Go.RowKit Go.Proofs.Ytjbjofmcmjojlaa.Wk Go.Proofs.YtjbjofmcmjojlaaW.PrintWords Go.Proofs.YtjbjofmcmjojlaaW.PrintLast Go.Proofs.YtjbjofmcmjojlaaQ
theorem elems_good {l : List Int} (h : (elemsT l).2 = 0) : l.length ≤ 4 ∧ l.any badDim = false ∧ (elemsT l).1 ≤ 1048576 ∧ (((elemsT l).1 = 0 ∧ l.contains 0 = true) ∨ (l.contains 0 = false ∧ (elemsT l).1 = lprod l)) := by
  have hE : elemsT l = if 4 < l.length ∨ l.any badDim = true then (0, 2) else if l.contains 0 = true then (0, 0) else prodLoop l l.length 0 1 := rfl
  by_cases c : 4 < l.length ∨ l.any badDim = true
  · rw [hE, if_pos c] at h
    simp at h
  · rw [if_neg c] at hE
    rw [not_or] at c
    by_cases z : l.contains 0 = true
    · rw [if_pos z] at hE
      rw [hE]
      exact ⟨by omega, by simpa using c.2, by simp, .inl ⟨rfl, z⟩⟩
    · rw [if_neg z] at hE
      rw [hE] at h ⊢
      have h1 := prodLoop_le l l.length 0 1 _ _ (by omega) (Prod.eta (prodLoop l l.length 0 1)).symm
      have h2 := prodLoop_ok l l.length 0 1 (prodLoop l l.length 0 1).1 (by omega) (by omega) (by rw [← h])
      rw [List.drop_zero, Int.one_mul] at h2
      exact ⟨by omega, by simpa using c.2, h1.1, .inr ⟨by simpa using z, h2⟩⟩
theorem pos_mem {l : List Int} (h : ∀ i : Nat, i < l.length → 1 ≤ rd l i) : ∀ x ∈ l, 1 ≤ x := by
  intro x hx
  obtain ⟨i, hi, rfl⟩ := List.getElem_of_mem hx
  rw [← rd_nat l i hi]
  exact h i hi
theorem contains_rd {l : List Int} (h : l.contains 0 = false) (i : Nat) (hi : i < l.length) : rd l i ≠ 0 := by
  rw [rd_nat l i hi]
  intro e
  have h3 : (0 : Int) ∈ l := by rw [← e]; exact List.getElem_mem hi
  rw [List.contains_iff_mem.2 h3] at h
  cases h
theorem ints_nprod (N : List Nat) : lprod (ints N) = nprod N := by
  induction N with
  | nil => rfl
  | cons a N ih =>
    show (a : Int) * lprod (ints N) = _
    rw [ih, nprod_cons]
    simp
theorem selN_one {l0 : List Int} (cnt blk : List Int) (h : ∀ i : Nat, i < l0.length → 0 ≤ rd l0 i) : ints (selN l0 1 cnt blk) = l0 := by
  apply List.ext_getElem
  · simp [ints, selN]
  · intro i h1 h2
    have := h i h2
    rw [rd_nat l0 i h2] at this
    simp [ints, selN, rd, h2]
    omega
theorem selN_zip {l0 cnt blk : List Int} {kind : Int} (hk : kind ≠ 1) (e3 : cnt.length = l0.length) (e4 : blk.length = l0.length) : selN l0 kind cnt blk = List.zipWith (fun a b => (a * b).toNat) cnt blk := by
  apply List.ext_getElem
  · simp [selN, e3, e4]
  · intro i h1 h2
    have hi : i < l0.length := by simpa [selN] using h1
    simp [selN, hk, rd, e3, e4, hi]
theorem nprod_zip : ∀ (a b : List Int), a.length = b.length → (∀ x ∈ a, 0 ≤ x) → (∀ x ∈ b, 0 ≤ x) → (nprod (List.zipWith (fun a b => (a * b).toNat) a b) : Int) = lprod a * lprod b
  | [], [], _, _, _ => by simp [nprod, lprod]
  | x :: a, y :: b, h, h1, h2 => by
    have ih := nprod_zip a b (by simpa using h) (fun z hz => h1 z (by simp [hz])) (fun z hz => h2 z (by simp [hz]))
    have hx := h1 x (by simp)
    have hy := h2 y (by simp)
    have hxy : 0 ≤ x * y := Int.mul_nonneg hx hy
    rw [List.zipWith_cons_cons, nprod_cons, lprod_cons, lprod_cons, Int.natCast_mul, ih, Int.toNat_of_nonneg hxy]
    rw [Int.mul_assoc, Int.mul_assoc, Int.mul_left_comm y]
theorem neg_mem {l : List Int} (h : l.any negDim = false) : ∀ x ∈ l, 0 ≤ x := by
  intro x hx
  have := List.any_eq_false.1 h x hx
  simp [negDim] at this
  omega
theorem any_range' {p : Nat → Bool} {n : Nat} (h : (List.range' 0 n).any p = false) (d : Nat) (hd : d < n) : p d = false := by
  have := List.any_eq_false.1 h d (by simp [List.mem_range']; omega)
  simpa using this
theorem nprod_pos {M : List Nat} (h : ∀ x ∈ M, 1 ≤ x) : 1 ≤ nprod M := by
  induction M with
  | nil => simp [nprod]
  | cons a M ih =>
    rw [nprod_cons]
    exact Nat.le_trans (ih (fun x hx => h x (by simp [hx]))) (Nat.le_mul_of_pos_left _ (h a (by simp)))
theorem getD_le_nprod : ∀ (M : List Nat) (d : Nat), (∀ x ∈ M, 1 ≤ x) → M.getD d 0 ≤ nprod M
  | [], d, _ => by simp
  | a :: M, 0, h => by
    rw [nprod_cons, List.getD_cons_zero]
    exact Nat.le_mul_of_pos_right _ (nprod_pos (fun x hx => h x (by simp [hx])))
  | a :: M, d + 1, h => by
    rw [nprod_cons, List.getD_cons_succ]
    exact Nat.le_trans (getD_le_nprod M d (fun x hx => h x (by simp [hx]))) (Nat.le_mul_of_pos_left _ (h a (by simp)))
structure Good (l0 : List Int) (kind : Int) (pts : List (List Int)) (start stride cnt blk : List Int) (n : Int) : Prop where
  ok : SelOk l0 kind start stride cnt blk
  len : ((selTuples l0 kind pts start stride cnt blk).length : Int) = n
  pos : 0 < n
  cap : n ≤ 4096
  within : ∀ x ∈ selTuples l0 kind pts start stride cnt blk, Within l0 x
theorem measured_good {l0 : List Int} {kind : Int} {pts : List (List Int)} {start stride cnt blk : List Int} {n : Int}
    (h : measuredT l0 kind pts start stride cnt blk = (n, 0)) (hn : n ≠ 0) : Good l0 kind pts start stride cnt blk n := by
  unfold measuredT at h
  have he : (elemsT l0).2 = 0 := by
    by_cases c : (elemsT l0).2 = 0
    · exact c
    · rw [if_neg c] at h
      simp only [Prod.mk.injEq] at h
      exact absurd h.2 c
  rw [if_pos he] at h
  obtain ⟨g1, g2, g3, g4⟩ := elems_good he
  have hdim := good_rd g2
  have capE : ∀ m : Int, capT m = (n, 0) → m = n ∧ n ≤ 4096 := by
    intro m hm
    unfold capT at hm
    split at hm
    · simp at hm
    · simp only [Prod.mk.injEq] at hm
      omega
  by_cases k1 : kind = 1
  · subst k1
    rw [if_pos rfl] at h
    obtain ⟨e1, e2⟩ := capE _ h
    rcases g4 with g4 | ⟨g4, g5⟩
    · omega
    · have hd1 : ∀ d : Nat, d < l0.length → 1 ≤ rd l0 d := fun d hd => by have := hdim d hd; have := contains_rd g4 d hd; omega
      have hNl := selN_length l0 1 cnt blk
      have hN := selN_one cnt blk (fun d hd => (hdim d hd).1)
      have hp : ((selTuples l0 1 pts start stride cnt blk).length : Int) = n := by
        unfold selTuples
        rw [if_neg (by omega), List.length_map, lex_length, ← ints_nprod, hN, ← g5, e1]
      refine ⟨.inr ⟨g1, .inl ⟨rfl, fun d hd => ⟨hd1 d hd, (hdim d hd).2⟩⟩⟩, hp, by omega, e2, fun x hx => ?_⟩
      unfold selTuples at hx
      rw [if_neg (by omega), List.mem_map] at hx
      obtain ⟨s, hs, rfl⟩ := hx
      obtain ⟨s1, s2⟩ := lex_mem _ s hs
      refine ⟨by rw [tupAt_length, s1, hNl], fun d hd => ?_⟩
      have h7 := s2 d (by omega)
      rw [selN_getD _ _ _ _ _ hd, if_pos rfl] at h7
      rw [tupAt_rd _ _ _ (by omega)]
      have := hd1 d hd
      simp only [selAv, if_true]
      omega
  · rw [if_neg k1] at h
    by_cases k2 : kind = 2 ∧ pts.all (rightOne l0.length) = true
    · rw [if_pos k2] at h
      obtain ⟨rfl, hr⟩ := k2
      by_cases ho : outT l0 pts = true
      · rw [if_pos ho] at h
        simp at h
      · rw [if_neg ho] at h
        obtain ⟨e1, e2⟩ := capE _ h
        have ho : outT l0 pts = false := by simpa using ho
        refine ⟨.inl rfl, by unfold selTuples; rw [if_pos rfl]; exact e1, by omega, e2, fun x hx => ?_⟩
        unfold selTuples at hx
        rw [if_pos rfl] at hx
        obtain ⟨r1, r2⟩ := right_nonneg (List.all_eq_true.1 hr x hx)
        refine ⟨r1, fun d hd => ⟨neg_rd r2 d (by omega), ?_⟩⟩
        have h8 := List.any_eq_false.1 ho x hx
        have h9 : outAt l0 x 0 = false := by simpa using h8
        unfold outAt at h9
        have := any_range' h9 d (by omega)
        simpa using this
    · rw [if_neg k2] at h
      by_cases k3 : kind = 3 ∧ slabR l0.length start stride cnt blk = true
      · rw [if_pos k3] at h
        obtain ⟨rfl, hs⟩ := k3
        unfold slabR at hs
        simp only [List.all_cons, List.all_nil, Bool.and_true, Bool.and_eq_true] at hs
        obtain ⟨r1, r2, r3, r4⟩ := hs
        obtain ⟨e1, n1⟩ := right_nonneg r1
        obtain ⟨e2, n2⟩ := right_nonneg r2
        obtain ⟨e3, n3⟩ := right_nonneg r3
        obtain ⟨e4, n4⟩ := right_nonneg r4
        by_cases hb : manyT (cnt ++ blk) > 0 ∧ beyondAt l0 start stride cnt blk 0 = true
        · rw [if_pos hb] at h
          simp at h
        · rw [if_neg hb] at h
          obtain ⟨m1, m2⟩ := capE _ h
          have hz : (cnt ++ blk).contains 0 = false := by
            cases z : (cnt ++ blk).contains 0 with
            | false => rfl
            | true => unfold manyT at m1; rw [if_pos z] at m1; omega
          have hneg : (cnt ++ blk).any negDim = false := by rw [List.any_append, n3, n4]; rfl
          have hpos : ∀ i : Nat, i < (cnt ++ blk).length → 1 ≤ rd (cnt ++ blk) i := fun i hi => pos_rd hneg hz i hi
          have hpm := pos_mem hpos
          have hc1 : ∀ d : Nat, d < l0.length → 1 ≤ rd cnt d := fun d hd => by rw [rd_nat cnt d (by omega)]; exact hpm _ (List.mem_append_left _ (List.getElem_mem _))
          have hb1 : ∀ d : Nat, d < l0.length → 1 ≤ rd blk d := fun d hd => by rw [rd_nat blk d (by omega)]; exact hpm _ (List.mem_append_right _ (List.getElem_mem _))
          have hmany : manyT (cnt ++ blk) = lprod cnt * lprod blk := by
            have hz' : ¬ (cnt ++ blk).contains 0 = true := by rw [hz]; simp
            unfold manyT at m1 ⊢
            rw [if_neg hz'] at m1 ⊢
            have := manyLoop_ok (cnt ++ blk) (cnt ++ blk).length 0 1 (by omega) (by omega) (by omega)
            rw [List.drop_zero, Int.one_mul, lprod_append] at this
            exact this
          have hmpos : 0 < manyT (cnt ++ blk) := by
            rw [hmany]
            have a1 := lprod_pos (fun x hx => hpm x (List.mem_append_left _ hx))
            have a2 := lprod_pos (fun x hx => hpm x (List.mem_append_right _ hx))
            have : 1 * 1 ≤ lprod cnt * lprod blk := Int.mul_le_mul a1 a2 (by omega) (by omega)
            omega
          have hbey : beyondAt l0 start stride cnt blk 0 = false := by
            cases z : beyondAt l0 start stride cnt blk 0 with
            | false => rfl
            | true => exact absurd ⟨hmpos, z⟩ hb
          have hN : selN l0 3 cnt blk = List.zipWith (fun a b => (a * b).toNat) cnt blk := selN_zip (by omega) e3 e4
          have hNp : (nprod (selN l0 3 cnt blk) : Int) = n := by
            rw [hN, nprod_zip cnt blk (by omega) (neg_mem n3) (neg_mem n4), ← hmany, m1]
          have hshare : ∀ d : Nat, d < l0.length → rd cnt d * rd blk d ≤ 4096 := by
            intro d hd
            have h7 := selN_getD l0 3 cnt blk d hd
            rw [if_neg (by omega)] at h7
            have h8 : 1 * 1 ≤ rd cnt d * rd blk d := Int.mul_le_mul (hc1 d hd) (hb1 d hd) (by omega) (by have := hc1 d hd; omega)
            have hall : ∀ x ∈ selN l0 3 cnt blk, 1 ≤ x := by
              intro x hx
              obtain ⟨i, hi, rfl⟩ := List.getElem_of_mem hx
              have hi' : i < l0.length := by simpa [selN] using hi
              have h10 := selN_getD l0 3 cnt blk i hi'
              rw [if_neg (by omega)] at h10
              have h11 : 1 * 1 ≤ rd cnt i * rd blk i := Int.mul_le_mul (hc1 i hi') (hb1 i hi') (by omega) (by have := hc1 i hi'; omega)
              have h12 : (selN l0 3 cnt blk).getD i 0 = (selN l0 3 cnt blk)[i] := by simp [List.getD_eq_getElem?_getD, hi]
              omega
            have h9 := getD_le_nprod (selN l0 3 cnt blk) d hall
            omega
          have hlast : ∀ d : Nat, d < l0.length → 0 ≤ rd start d ∧ 0 ≤ rd stride d ∧ rd start d + (rd cnt d - 1) * rd stride d + rd blk d ≤ rd l0 d := by
            intro d hd
            have hst := neg_rd n1 d (by omega)
            have hsr := neg_rd n2 d (by omega)
            refine ⟨hst, hsr, ?_⟩
            unfold beyondAt at hbey
            have h7 := any_range' hbey d (by omega)
            unfold beyondT at h7
            rw [Bool.or_eq_false_iff, decide_eq_false_iff_not] at h7
            obtain ⟨h7, h8⟩ := h7
            by_cases hz0 : 0 < rd stride d
            · rw [decide_eq_true hz0, Bool.true_and, decide_eq_false_iff_not] at h8
              have h9 : rd cnt d - 1 ≤ (rd l0 d - rd start d - rd blk d) / rd stride d := by omega
              have h10 := (Int.le_ediv_iff_mul_le hz0).1 h9
              omega
            · have : rd stride d = 0 := by omega
              rw [this, Int.mul_zero]
              omega
          refine ⟨.inr ⟨g1, .inr ⟨by omega, e1, e2, e3, e4, fun d hd => ⟨hc1 d hd, hb1 d hd, hshare d hd, (hlast d hd).1, (hlast d hd).2.1, by have := (hlast d hd).2.2; have := (hdim d hd).2; omega⟩⟩⟩, ?_, by omega, m2, fun x hx => ?_⟩
          · unfold selTuples
            rw [if_neg (by omega), List.length_map, lex_length]
            exact hNp
          · unfold selTuples at hx
            rw [if_neg (by omega), List.mem_map] at hx
            obtain ⟨s, hs, rfl⟩ := hx
            obtain ⟨s1, s2⟩ := lex_mem _ s hs
            have hNl := selN_length l0 3 cnt blk
            refine ⟨by rw [tupAt_length, s1, hNl], fun d hd => ?_⟩
            have h7 := s2 d (by omega)
            rw [selN_getD _ _ _ _ _ hd, if_neg (by omega)] at h7
            rw [tupAt_rd _ _ _ (by omega)]
            generalize s.getD d 0 = k at h7
            obtain ⟨l1, l2, l3⟩ := hlast d hd
            have c1 := hc1 d hd
            have b1 := hb1 d hd
            unfold selAv
            rw [if_neg (by omega)]
            have hq0 : 0 ≤ (k : Int) / rd blk d := Int.ediv_nonneg (by omega) (by omega)
            have hm0 : 0 ≤ (k : Int) % rd blk d := Int.emod_nonneg _ (by omega)
            have hm1 : (k : Int) % rd blk d < rd blk d := Int.emod_lt_of_pos _ (by omega)
            have hq1 : (k : Int) / rd blk d < rd cnt d := by
              rw [Int.ediv_lt_iff_lt_mul (by omega)]
              omega
            have hp0 : 0 ≤ (k : Int) / rd blk d * rd stride d := Int.mul_nonneg hq0 l2
            have hp1 : (k : Int) / rd blk d * rd stride d ≤ (rd cnt d - 1) * rd stride d := Int.mul_le_mul_of_nonneg_right (by omega) l2
            omega
      · rw [if_neg k3] at h
        simp at h
def placesT (l0 : List Int) (kind : Int) (pts : List (List Int)) (start stride cnt blk : List Int) : List Int × Int :=
  if (measuredT l0 kind pts start stride cnt blk).2 = 0 then (if (measuredT l0 kind pts start stride cnt blk).1 = 0 then ([], 0) else ((selTuples l0 kind pts start stride cnt blk).map (placeOf l0), 0))
  else ([], (measuredT l0 kind pts start stride cnt blk).2)
theorem places_ev (l0 : List Int) (kind : Int) (pts : List (List Int)) (start stride cnt blk : List Int) (h0 : Fit l0) (h1 : pts.length ≤ 9223372036854775807) (h1' : ∀ x ∈ pts, x.length ≤ 9223372036854775807)
    (h2 : Fit start) (h3 : Fit stride) (h4 : Fit cnt) (h5 : Fit blk) : Ev (fun k => space_Places.f k l0 kind pts start stride cnt blk) (placesT l0 kind pts start stride cnt blk) := by
  unfold space_Places.f
  refine Ev.bind (measured_ev l0 kind pts start stride cnt blk h0 h1 h1' h2 h3 h4 h5) ?_
  unfold placesT
  by_cases c : (measuredT l0 kind pts start stride cnt blk).2 = 0
  · by_cases d : (measuredT l0 kind pts start stride cnt blk).1 = 0
    · simp only [if_pos c, if_pos d]
      exact Ev.now _
    · have g := measured_good (n := (measuredT l0 kind pts start stride cnt blk).1) (by rw [← c]) d
      simp only [if_pos c, if_neg d]
      rw [if_pos ⟨g.ok, by have := g.len; have := g.cap; omega, fun x hx => by have := (g.within x hx).1; omega, by have := g.pos; omega, g.cap⟩]
      exact Ev.now _
  · simp only [if_neg c]
    exact Ev.now _
end Go.Proofs.Ytjbjofmcmjojlaa.Pure
end
section
namespace Go.Proofs.Ytjbjofmcmjojlaa.Wk
open Go.RowKit Go.Proofs.YtjbjofmcmjojlaaW.PrintWords Go.Proofs.YtjbjofmcmjojlaaW.PrintLast Go.Proofs.YtjbjofmcmjojlaaW.PrintMore
attribute [local go_sem] max2_int min2_int max_two min_two max_three min_three max_four min_four
set_option linter.unusedVariables false
set_option linter.unusedSimpArgs false
def slabvaultref12_right.l0 : Nat → List Int → Int → Int → Option (Bool)
  | 0, _, _, _ => none
  | k + 1, x0, x1, x5 => if x5 < x1 then (if 0 ≤ x5 then (if x5 < (x0.length : Int) then (if (rd x0 x5) < 0 then (some false) else (slabvaultref12_right.l0 k x0 x1 (wrap64 (x5 + 1)))) else (none)) else (none)) else (some true)
def slabvaultref12_right.f (k : Nat) (l0 : List Int) (a1 : Int) : Option (Bool) := if (l0.length : Int) = a1 then (slabvaultref12_right.l0 k l0 a1 0) else (some false)
end Go.Proofs.Ytjbjofmcmjojlaa.Wk
end
section
namespace Go.Proofs.Ytjbjofmcmjojlaa.Wk
open Go.RowKit Go.Proofs.YtjbjofmcmjojlaaW.PrintWords Go.Proofs.YtjbjofmcmjojlaaW.PrintLast Go.Proofs.YtjbjofmcmjojlaaW.PrintMore
attribute [local go_sem] max2_int min2_int max_two min_two max_three min_three max_four min_four
set_option linter.unusedVariables false
set_option linter.unusedSimpArgs false
def slabvaultref12_may.l0 : Nat → Int → Int → Int → List (List Int) → List Int → List Int → List Int → List Int → Option (Bool)
 | 0, _, _, _, _, _, _, _, _ => none
 | k + 1, x0, x5, x217000, x217001, x217002, x217003, x217004, x217005 => if x5 < (x217001.length : Int) then (if 0 ≤ x5 then ((slabvaultref12_right.f k (rd_L1 x217001 x5) x0).bind fun t218 => (if t218 = true then (slabvaultref12_may.l0 k x0 (wrap64 (x5 + 1)) x217000 x217001 x217002 x217003 x217004 x217005) else (some false))) else (none)) else (some true)
def slabvaultref12_may.f (k : Nat) (a0 : Int) (a1_0 : Int) (l1_1 : List (List Int)) (l1_2 : List Int) (l1_3 : List Int) (l1_4 : List Int) (l1_5 : List Int) : Option (Bool) := if a1_0 = 1 then (some true) else (if a1_0 = 2 then (slabvaultref12_may.l0 k a0 0 a1_0 l1_1 l1_2 l1_3 l1_4 l1_5) else (if a1_0 = 3 then ((slabvaultref12_right.f k l1_2 a0).bind fun t219 => (if t219 = true then ((slabvaultref12_right.f k l1_3 a0).bind fun t220 => (if t220 = true then ((slabvaultref12_right.f k l1_4 a0).bind fun t221 => (if t221 = true then ((slabvaultref12_right.f k l1_5 a0).bind fun t222 => (some t222)) else (some false))) else (some false))) else (some false))) else (some false)))
end Go.Proofs.Ytjbjofmcmjojlaa.Wk
end
section
namespace Go.Proofs.Ytjbjofmcmjojlaa.Wk
open Go.RowKit Go.Proofs.YtjbjofmcmjojlaaW.PrintWords Go.Proofs.YtjbjofmcmjojlaaW.PrintLast Go.Proofs.YtjbjofmcmjojlaaW.PrintMore
attribute [local go_sem] max2_int min2_int max_two min_two max_three min_three max_four min_four
set_option linter.unusedVariables false
set_option linter.unusedSimpArgs false
def slabvaultref12_product.j0 : Nat → Int → Int → Bool → Option (Int)
  | 0, _, _, _ => none
  | k + 1, x0, x1, x10 => if x10 = true then (some 0) else (if x0 > 4096 then (some 4097) else (if x1 > 4096 then (some 4097) else (some (mn (wrap64 (x0 * x1)) 4097))))
def slabvaultref12_product.f (k : Nat) (a0 : Int) (a1 : Int) : Option (Int) := if a0 = 0 then (slabvaultref12_product.j0 k a0 a1 true) else (slabvaultref12_product.j0 k a0 a1 (a1 == 0))
end Go.Proofs.Ytjbjofmcmjojlaa.Wk
end
section
namespace Go.Proofs.Ytjbjofmcmjojlaa.Wk
open Go.RowKit Go.Proofs.YtjbjofmcmjojlaaW.PrintWords Go.Proofs.YtjbjofmcmjojlaaW.PrintLast Go.Proofs.YtjbjofmcmjojlaaW.PrintMore
attribute [local go_sem] max2_int min2_int max_two min_two max_three min_three max_four min_four
set_option linter.unusedVariables false
set_option linter.unusedSimpArgs false
mutual
def slabvaultref12_selected.l0 : Nat → List Int → Int → Int → Int → List (List Int) → List Int → List Int → List Int → List Int → Option (Int)
 | 0, _, _, _, _, _, _, _, _, _ => none
 | k + 1, x0, x5, x6, x224000, x224001, x224002, x224003, x224004, x224005 => if x6 < (x0.length : Int) then (if 0 ≤ x6 then (if x6 < (x224004.length : Int) then (if (rd x224004 x6) = 0 then (some 0) else (if x6 < (x224005.length : Int) then (if (rd x224005 x6) = 0 then (some 0) else (slabvaultref12_selected.l0 k x0 x5 (wrap64 (x6 + 1)) x224000 x224001 x224002 x224003 x224004 x224005)) else (none))) else (none)) else (none)) else (slabvaultref12_selected.l1 k x0 x5 0 x224000 x224001 x224002 x224003 x224004 x224005)
def slabvaultref12_selected.l1 : Nat → List Int → Int → Int → Int → List (List Int) → List Int → List Int → List Int → List Int → Option (Int)
 | 0, _, _, _, _, _, _, _, _, _ => none
 | k + 1, x0, x5, x7, x224000, x224001, x224002, x224003, x224004, x224005 => if x7 < (x0.length : Int) then (if 0 ≤ x7 then (if x7 < (x224004.length : Int) then (if x7 < (x224005.length : Int) then ((slabvaultref12_product.f k (rd x224004 x7) (rd x224005 x7)).bind fun t230 => ((slabvaultref12_product.f k x5 t230).bind fun t231 => (slabvaultref12_selected.l1 k x0 t231 (wrap64 (x7 + 1)) x224000 x224001 x224002 x224003 x224004 x224005))) else (none)) else (none)) else (none)) else (some (mn x5 4097))
end
def slabvaultref12_selected.f (k : Nat) (l0 : List Int) (a1_0 : Int) (l1_1 : List (List Int)) (l1_2 : List Int) (l1_3 : List Int) (l1_4 : List Int) (l1_5 : List Int) : Option (Int) := if a1_0 = 1 then ((slabvaultref12_Elements.f k l0).bind fun bt224 => (some (mn bt224.1 4097))) else (if a1_0 = 2 then (some (mn (l1_1.length : Int) 4097)) else (if a1_0 = 3 then (slabvaultref12_selected.l0 k l0 1 0 a1_0 l1_1 l1_2 l1_3 l1_4 l1_5) else (some (mn 1 4097))))
def slabvaultref12_selected.T16 : Bool × List (List Nat × List Nat) := (true, [([], []), ([], []), ([1], [1]), ([], []), ([2, 3], [2, 3]), ([4], [4]), ([], []), ([6], [6]), ([], []), ([7, 8], [7, 8]), ([9], [9]), ([5, 10], [5, 10]), ([0, 11, 11], [0, 11]), ([12, 12, 0, 1, 2, 3, 4, 5, 6, 7, 8, 9, 10, 11, 12], [0, 12])])
def slabvaultref12_selected.B16 : List Nat := [0, 0, 2, 0, 14, 30, 0, 64, 0, 448, 960, 2046, 4095, 8191]
end Go.Proofs.Ytjbjofmcmjojlaa.Wk
end
section
namespace Go.Proofs.Ytjbjofmcmjojlaa.Wk
open Go.RowKit Go.Proofs.YtjbjofmcmjojlaaW.PrintWords Go.Proofs.YtjbjofmcmjojlaaW.PrintLast Go.Proofs.YtjbjofmcmjojlaaW.PrintMore
attribute [local go_sem] max2_int min2_int max_two min_two max_three min_three max_four min_four
set_option linter.unusedVariables false
set_option linter.unusedSimpArgs false
def slabvaultref12_beyond.f (a0 : Int) (a1 : Int) (a2 : Int) (a3 : Int) (a4 : Int) : Option (Bool) := if a1 ≥ a0 then (some true) else (if a4 > (wrap64 (a0 - a1)) then (some true) else (if a2 > 0 then (if a2 = 0 then (none) else (some (decide ((wrap64 (a3 - 1)) > (wrap64 (Int.tdiv (wrap64 ((wrap64 (a0 - a1)) - a4)) a2)))))) else (some false)))
end Go.Proofs.Ytjbjofmcmjojlaa.Wk
end
section
namespace Go.Proofs.Ytjbjofmcmjojlaa.Wk
open Go.RowKit Go.Proofs.YtjbjofmcmjojlaaW.PrintWords Go.Proofs.YtjbjofmcmjojlaaW.PrintLast Go.Proofs.YtjbjofmcmjojlaaW.PrintMore
attribute [local go_sem] max2_int min2_int max_two min_two max_three min_three max_four min_four
set_option linter.unusedVariables false
set_option linter.unusedSimpArgs false
mutual
def slabvaultref12_Check.l0 : Nat → List Int → Int → Int → Int → List (List Int) → List Int → List Int → List Int → List Int → Option (Int)
 | 0, _, _, _, _, _, _, _, _, _ => none
 | k + 1, x0, x7, x8, x233000, x233001, x233002, x233003, x233004, x233005 => if x8 < (x0.length : Int) then (if x233000 = 2 then (slabvaultref12_Check.l1 k x0 x7 x8 0 x233000 x233001 x233002 x233003 x233004 x233005) else (slabvaultref12_Check.j2 k x0 x7 x8 x233000 x233001 x233002 x233003 x233004 x233005)) else (if x7 > 4096 then (some 18) else (some 0))
def slabvaultref12_Check.j2 : Nat → List Int → Int → Int → Int → List (List Int) → List Int → List Int → List Int → List Int → Option (Int)
 | 0, _, _, _, _, _, _, _, _, _ => none
 | k + 1, x0, x7, x8, x233000, x233001, x233002, x233003, x233004, x233005 => if x233000 = 3 then (if x7 > 0 then (if 0 ≤ x8 then (if x8 < (x0.length : Int) then (if x8 < (x233002.length : Int) then (if x8 < (x233003.length : Int) then (if x8 < (x233004.length : Int) then (if x8 < (x233005.length : Int) then ((slabvaultref12_beyond.f (rd x0 x8) (rd x233002 x8) (rd x233003 x8) (rd x233004 x8) (rd x233005 x8)).bind fun t245 => (if t245 = true then (some 17) else (slabvaultref12_Check.l0 k x0 x7 (wrap64 (x8 + 1)) x233000 x233001 x233002 x233003 x233004 x233005))) else (none)) else (none)) else (none)) else (none)) else (none)) else (none)) else (slabvaultref12_Check.l0 k x0 x7 (wrap64 (x8 + 1)) x233000 x233001 x233002 x233003 x233004 x233005)) else (slabvaultref12_Check.l0 k x0 x7 (wrap64 (x8 + 1)) x233000 x233001 x233002 x233003 x233004 x233005)
def slabvaultref12_Check.l1 : Nat → List Int → Int → Int → Int → Int → List (List Int) → List Int → List Int → List Int → List Int → Option (Int)
 | 0, _, _, _, _, _, _, _, _, _, _ => none
 | k + 1, x0, x7, x8, x9, x233000, x233001, x233002, x233003, x233004, x233005 => if x9 < (x233001.length : Int) then (if 0 ≤ x9 then (if 0 ≤ x8 then (if x8 < ((rd_L1 x233001 x9).length : Int) then (if x8 < (x0.length : Int) then (if (rd (rd_L1 x233001 x9) x8) ≥ (rd x0 x8) then (some 17) else (slabvaultref12_Check.l1 k x0 x7 x8 (wrap64 (x9 + 1)) x233000 x233001 x233002 x233003 x233004 x233005)) else (none)) else (none)) else (none)) else (none)) else (slabvaultref12_Check.j2 k x0 x7 x8 x233000 x233001 x233002 x233003 x233004 x233005)
end
def slabvaultref12_Check.f (k : Nat) (l0 : List Int) (a1_0 : Int) (l1_1 : List (List Int)) (l1_2 : List Int) (l1_3 : List Int) (l1_4 : List Int) (l1_5 : List Int) : Option (Int) := (slabvaultref12_Elements.f k l0).bind fun bt233 => (if bt233.2 = 0 then ((slabvaultref12_may.f k (l0.length : Int) a1_0 l1_1 l1_2 l1_3 l1_4 l1_5).bind fun t235 => (if t235 = true then ((slabvaultref12_selected.f k l0 a1_0 l1_1 l1_2 l1_3 l1_4 l1_5).bind fun t236 => (slabvaultref12_Check.l0 k l0 t236 0 a1_0 l1_1 l1_2 l1_3 l1_4 l1_5)) else (some 2))) else (some bt233.2))
def slabvaultref12_Check.T14 : Bool × List (List Nat × List Nat) := (true, [([], []), ([0], [0]), ([], []), ([1, 2], [1, 2]), ([3], [3]), ([], []), ([4, 5], [4, 5]), ([6], [6]), ([], []), ([], []), ([8, 9], [8, 9]), ([10], [10]), ([7, 11], [7, 11])])
def slabvaultref12_Check.B14 : List Nat := [0, 1, 0, 7, 15, 0, 63, 127, 0, 0, 768, 1792, 4095]
def slabvaultref12_Check.T16 : Bool × List (List Nat × List Nat) := (true, [([], []), ([0], [0]), ([1], [1]), ([2], [2]), ([3], [3]), ([4, 3], [3, 4]), ([3, 5], [3, 5]), ([6, 3], [6]), ([7], [7]), ([7], [7]), ([8, 9, 7], [7, 8, 9]), ([10, 7], [7, 10]), ([7], [7]), ([12, 7], [7, 12]), ([7], [7]), ([13, 14, 7], [7, 13, 14]), ([15, 7], [7, 15]), ([7], [7]), ([17, 7], [7, 17]), ([7], [7]), ([18, 19, 7], [7, 18, 19]), ([20, 7], [7, 20]), ([7], [7]), ([22, 7], [7, 22]), ([7], [7]), ([23, 24, 7], [7, 23, 24]), ([25, 7], [7, 25]), ([7], [7]), ([27, 7], [7, 27]), ([7], [7]), ([28, 29, 7], [7, 28, 29]), ([30, 7], [7, 30]), ([11, 16, 21, 26, 31, 7, 7], [7, 11, 16, 21, 26, 31]), ([7, 32], [7, 32])])
def slabvaultref12_Check.B16 : List Nat := [0, 1, 3, 7, 15, 31, 63, 127, 255, 255, 1023, 2047, 255, 4351, 255, 28927, 61695, 255, 131327, 255, 917759, 1966335, 255, 4194559, 255, 29360383, 62914815, 255, 134217983, 255, 939524351, 2013266175, 4294967295, 8589934591]
end Go.Proofs.Ytjbjofmcmjojlaa.Wk
end
section
namespace Go.Proofs.Ytjbjofmcmjojlaa.Pure
open Go.RowKit Go.Proofs.Ytjbjofmcmjojlaa.Wk Go.Proofs.YtjbjofmcmjojlaaW.PrintWords Go.Proofs.YtjbjofmcmjojlaaW.PrintLast Go.Proofs.YtjbjofmcmjojlaaQ
theorem rdL1_nat (l : List (List Int)) (i : Nat) (h : i < l.length) : rd_L1 l (i : Int) = l[i] := by simp [rd_L1, h]
def mayT (r : Nat) (kind : Int) (pts : List (List Int)) (start stride cnt blk : List Int) : Bool :=
  if kind = 1 then true else if kind = 2 then pts.all (rightOne r) else if kind = 3 then slabR r start stride cnt blk else false
def cap (x : Int) : Int := if x > 4096 then 4097 else x
def selT (l0 : List Int) (kind : Int) (pts : List (List Int)) (cnt blk : List Int) : Int :=
  if kind = 1 then cap (elemsT l0).1 else if kind = 2 then cap pts.length else cap (manyT (cnt ++ blk))
def endT (n : Int) : Int := if n > 4096 then 18 else 0
def colOut (l0 : List Int) (pts : List (List Int)) (d : Nat) : Bool := pts.any fun x => decide (rd x d ≥ rd l0 d)
end Go.Proofs.Ytjbjofmcmjojlaa.Pure
end
section
namespace Go.Proofs.Ytjbjofmcmjojlaa.Wk
open Go.RowKit Go.Proofs.YtjbjofmcmjojlaaW.PrintWords Go.Proofs.YtjbjofmcmjojlaaW.PrintLast Go.Proofs.YtjbjofmcmjojlaaW.PrintMore
attribute [local go_sem] max2_int min2_int max_two min_two max_three min_three max_four min_four
set_option linter.unusedVariables false
set_option linter.unusedSimpArgs false
mutual
def slabvaultref12_Tuples.l0 : Nat → List (List Int) → Int → Int → List (List Int) → List Int → List Int → List Int → List Int → Option ((List (List Int)) × Int)
 | 0, _, _, _, _, _, _, _, _ => none
 | k + 1, x7, x8, x242000, x242001, x242002, x242003, x242004, x242005 => if x8 < (x242001.length : Int) then ((some (([] : List Int) : List Int)).bind fun y243 => (if 0 ≤ x8 then (if y243.length + (rd_L1 x242001 x8).length < 17592186044416 then ((some (([(y243 ++ (rd_L1 x242001 x8))] : List (List Int)) : List (List Int))).bind fun y250 => (if x7.length + y250.length < 5864062014805 then (slabvaultref12_Tuples.l0 k (x7 ++ y250) (wrap64 (x8 + 1)) x242000 x242001 x242002 x242003 x242004 x242005) else (none))) else (none)) else (none))) else (some (x7, 0))
def slabvaultref12_Tuples.l1 : Nat → List Int → List (List Int) → Int → Int → List (List Int) → List Int → List Int → List Int → List Int → Option ((List (List Int)) × Int)
 | 0, _, _, _, _, _, _, _, _, _ => none
 | k + 1, x0, x7, x9, x242000, x242001, x242002, x242003, x242004, x242005 => if x9 < (x0.length : Int) then (if x242000 = 1 then (slabvaultref12_Tuples.l2 k x0 x7 x9 ([] : List Int) 0 x242000 x242001 x242002 x242003 x242004 x242005) else (slabvaultref12_Tuples.l3 k x0 x7 x9 ([] : List Int) 0 x242000 x242001 x242002 x242003 x242004 x242005)) else (some (x7, 0))
def slabvaultref12_Tuples.j5 : Nat → List Int → List (List Int) → Int → List Int → Int → List (List Int) → List Int → List Int → List Int → List Int → Option ((List (List Int)) × Int)
 | 0, _, _, _, _, _, _, _, _, _, _ => none
 | k + 1, x0, x7, x9, x10, x242000, x242001, x242002, x242003, x242004, x242005 => slabvaultref12_Tuples.l5 k x0 x7 x9 x10 ([] : List (List Int)) 0 x242000 x242001 x242002 x242003 x242004 x242005
def slabvaultref12_Tuples.l5 : Nat → List Int → List (List Int) → Int → List Int → List (List Int) → Int → Int → List (List Int) → List Int → List Int → List Int → List Int → Option ((List (List Int)) × Int)
 | 0, _, _, _, _, _, _, _, _, _, _, _, _ => none
 | k + 1, x0, x7, x9, x10, x14, x15, x242000, x242001, x242002, x242003, x242004, x242005 => if x15 < (x7.length : Int) then (slabvaultref12_Tuples.l6 k x0 x7 x9 x10 x14 x15 0 x242000 x242001 x242002 x242003 x242004 x242005) else (slabvaultref12_Tuples.l1 k x0 x14 (wrap64 (x9 + 1)) x242000 x242001 x242002 x242003 x242004 x242005)
def slabvaultref12_Tuples.l6 : Nat → List Int → List (List Int) → Int → List Int → List (List Int) → Int → Int → Int → List (List Int) → List Int → List Int → List Int → List Int → Option ((List (List Int)) × Int)
 | 0, _, _, _, _, _, _, _, _, _, _, _, _, _ => none
 | k + 1, x0, x7, x9, x10, x14, x15, x16, x242000, x242001, x242002, x242003, x242004, x242005 => if x16 < (x10.length : Int) then ((some (([] : List Int) : List Int)).bind fun y280 => (if 0 ≤ x15 then (if x15 < (x7.length : Int) then (if y280.length + (rd_L1 x7 x15).length < 17592186044416 then ((some (y280 ++ (rd_L1 x7 x15) : List Int)).bind fun y284 => (if 0 ≤ x16 then ((some (([rd x10 x16] : List Int) : List Int)).bind fun y288 => (if y284.length + y288.length < 17592186044416 then ((some (([(y284 ++ y288)] : List (List Int)) : List (List Int))).bind fun y294 => (if x14.length + y294.length < 5864062014805 then (slabvaultref12_Tuples.l6 k x0 x7 x9 x10 (x14 ++ y294) x15 (wrap64 (x16 + 1)) x242000 x242001 x242002 x242003 x242004 x242005) else (none))) else (none))) else (none))) else (none)) else (none)) else (none))) else (slabvaultref12_Tuples.l5 k x0 x7 x9 x10 x14 (wrap64 (x15 + 1)) x242000 x242001 x242002 x242003 x242004 x242005)
def slabvaultref12_Tuples.l2 : Nat → List Int → List (List Int) → Int → List Int → Int → Int → List (List Int) → List Int → List Int → List Int → List Int → Option ((List (List Int)) × Int)
 | 0, _, _, _, _, _, _, _, _, _, _, _ => none
 | k + 1, x0, x7, x9, x10, x11, x242000, x242001, x242002, x242003, x242004, x242005 => if 0 ≤ x9 then (if x9 < (x0.length : Int) then (if x11 < (rd x0 x9) then ((some (([x11] : List Int) : List Int)).bind fun y264 => (if x10.length + y264.length < 17592186044416 then (slabvaultref12_Tuples.l2 k x0 x7 x9 (x10 ++ y264) (wrap64 (x11 + 1)) x242000 x242001 x242002 x242003 x242004 x242005) else (none))) else (slabvaultref12_Tuples.j5 k x0 x7 x9 x10 x242000 x242001 x242002 x242003 x242004 x242005)) else (none)) else (none)
def slabvaultref12_Tuples.l3 : Nat → List Int → List (List Int) → Int → List Int → Int → Int → List (List Int) → List Int → List Int → List Int → List Int → Option ((List (List Int)) × Int)
 | 0, _, _, _, _, _, _, _, _, _, _, _ => none
 | k + 1, x0, x7, x9, x10, x12, x242000, x242001, x242002, x242003, x242004, x242005 => if 0 ≤ x9 then (if x9 < (x242004.length : Int) then (if x12 < (rd x242004 x9) then (slabvaultref12_Tuples.l4 k x0 x7 x9 x10 x12 0 x242000 x242001 x242002 x242003 x242004 x242005) else (slabvaultref12_Tuples.j5 k x0 x7 x9 x10 x242000 x242001 x242002 x242003 x242004 x242005)) else (none)) else (none)
def slabvaultref12_Tuples.l4 : Nat → List Int → List (List Int) → Int → List Int → Int → Int → Int → List (List Int) → List Int → List Int → List Int → List Int → Option ((List (List Int)) × Int)
 | 0, _, _, _, _, _, _, _, _, _, _, _, _ => none
 | k + 1, x0, x7, x9, x10, x12, x13, x242000, x242001, x242002, x242003, x242004, x242005 => if 0 ≤ x9 then (if x9 < (x242005.length : Int) then (if x13 < (rd x242005 x9) then (if x9 < (x242002.length : Int) then (if x9 < (x242003.length : Int) then ((some (([wrap64 ((wrap64 ((rd x242002 x9) + (wrap64 (x12 * (rd x242003 x9))))) + x13)] : List Int) : List Int)).bind fun y274 => (if x10.length + y274.length < 17592186044416 then (slabvaultref12_Tuples.l4 k x0 x7 x9 (x10 ++ y274) x12 (wrap64 (x13 + 1)) x242000 x242001 x242002 x242003 x242004 x242005) else (none))) else (none)) else (none)) else (slabvaultref12_Tuples.l3 k x0 x7 x9 x10 (wrap64 (x12 + 1)) x242000 x242001 x242002 x242003 x242004 x242005)) else (none)) else (none)
end
def slabvaultref12_Tuples.f (k : Nat) (l0 : List Int) (a1_0 : Int) (l1_1 : List (List Int)) (l1_2 : List Int) (l1_3 : List Int) (l1_4 : List Int) (l1_5 : List Int) : Option ((List (List Int)) × Int) := (slabvaultref12_Check.f k l0 a1_0 l1_1 l1_2 l1_3 l1_4 l1_5).bind fun t242 => (if t242 = 0 then (if a1_0 = 2 then (slabvaultref12_Tuples.l0 k ([] : List (List Int)) 0 a1_0 l1_1 l1_2 l1_3 l1_4 l1_5) else ((slabvaultref12_selected.f k l0 a1_0 l1_1 l1_2 l1_3 l1_4 l1_5).bind fun t256 => (if t256 = 0 then (some (([] : List (List Int)), 0)) else (slabvaultref12_Tuples.l1 k l0 (([(([] : List Int))] : List (List Int))) 0 a1_0 l1_1 l1_2 l1_3 l1_4 l1_5)))) else (some (([] : List (List Int)), t242)))
def slabvaultref12_Tuples.T29 : Bool × List (List Nat × List Nat) := (true, [([], []), ([], []), ([1], [1]), ([], []), ([2, 3], [2, 3]), ([4], [4]), ([], []), ([], []), ([7], [7]), ([], []), ([8, 9], [8, 9]), ([10], [10]), ([6, 11], [6, 11]), ([5, 12], [5, 12]), ([], []), ([13, 14], [13, 14]), ([15], [15]), ([0, 16], [0, 16]), ([17, 17, 0, 1, 2, 3, 4, 5, 6, 7, 8, 9, 10, 11, 12, 13, 14, 15, 16, 17], [0, 17])])
def slabvaultref12_Tuples.B29 : List Nat := [0, 0, 2, 0, 14, 30, 0, 0, 128, 0, 896, 1920, 4032, 8190, 0, 32766, 65534, 131071, 262143]
def slabvaultref12_Tuples.T37 : Bool × List (List Nat × List Nat) := (true, [([], []), ([], []), ([], []), ([], []), ([2, 3], [2, 3]), ([4], [4]), ([1, 5], [1, 5]), ([], []), ([], []), ([7, 8], [7, 8]), ([9], [9]), ([10], [10]), ([6, 11, 6], [6, 11]), ([12], [12]), ([0, 13, 12], [0, 13]), ([14, 14, 0, 1, 2, 3, 4, 5, 6, 7, 8, 9, 10, 11, 12, 13, 14], [0, 14])])
def slabvaultref12_Tuples.B37 : List Nat := [0, 0, 0, 0, 12, 28, 62, 0, 0, 384, 896, 1920, 4094, 8190, 16383, 32767]
end Go.Proofs.Ytjbjofmcmjojlaa.Wk
end
section
namespace Go.Proofs.Ytjbjofmcmjojlaa.Wk
open Go.RowKit Go.Proofs.YtjbjofmcmjojlaaW.PrintWords Go.Proofs.YtjbjofmcmjojlaaW.PrintLast Go.Proofs.YtjbjofmcmjojlaaW.PrintMore
attribute [local go_sem] max2_int min2_int max_two min_two max_three min_three max_four min_four
set_option linter.unusedVariables false
set_option linter.unusedSimpArgs false
def slabvaultref12_Place.l0 : Nat → List Int → List Int → Int → Int → Option (Int)
  | 0, _, _, _, _ => none
  | k + 1, x0, x1, x5, x6 => if x6 < (x0.length : Int) then (if 0 ≤ x6 then (if x6 < (x1.length : Int) then (slabvaultref12_Place.l0 k x0 x1 (wrap64 ((wrap64 (x5 * (rd x0 x6))) + (rd x1 x6))) (wrap64 (x6 + 1))) else (none)) else (none)) else (some x5)
def slabvaultref12_Place.f (k : Nat) (l0 : List Int) (l1 : List Int) : Option (Int) := slabvaultref12_Place.l0 k l0 l1 0 0
end Go.Proofs.Ytjbjofmcmjojlaa.Wk
end
section
namespace Go.Proofs.Ytjbjofmcmjojlaa.Wk
open Go.RowKit Go.Proofs.YtjbjofmcmjojlaaW.PrintWords Go.Proofs.YtjbjofmcmjojlaaW.PrintLast Go.Proofs.YtjbjofmcmjojlaaW.PrintMore
attribute [local go_sem] max2_int min2_int max_two min_two max_three min_three max_four min_four
set_option linter.unusedVariables false
set_option linter.unusedSimpArgs false
def slabvaultref12_Places.l0 : Nat → List Int → List (List Int) → Int → List Int → Int → Option (List Int × Int)
  | 0, _, _, _, _, _ => none
  | k + 1, x0, x6, x7, x8, x9 => if x9 < (x6.length : Int) then (if 0 ≤ x9 then ((slabvaultref12_Place.f k x0 (rd_L1 x6 x9)).bind fun t308 => (if x8.length < 17592186044416 then (slabvaultref12_Places.l0 k x0 x6 x7 (x8 ++ [t308]) (wrap64 (x9 + 1))) else (none))) else (none)) else (some (x8, x7))
def slabvaultref12_Places.f (k : Nat) (l0 : List Int) (a1_0 : Int) (l1_1 : List (List Int)) (l1_2 : List Int) (l1_3 : List Int) (l1_4 : List Int) (l1_5 : List Int) : Option (List Int × Int) := (slabvaultref12_Tuples.f k l0 a1_0 l1_1 l1_2 l1_3 l1_4 l1_5).bind fun bt303 => (slabvaultref12_Places.l0 k l0 bt303.1 bt303.2 ([] : List Int) 0)
end Go.Proofs.Ytjbjofmcmjojlaa.Wk
end
section
namespace Go.Proofs.Ytjbjofmcmjojlaa.Pure
open Go.RowKit Go.Proofs.Ytjbjofmcmjojlaa.Wk Go.Proofs.YtjbjofmcmjojlaaW.PrintWords Go.Proofs.YtjbjofmcmjojlaaW.PrintLast Go.Proofs.YtjbjofmcmjojlaaQ
def app (line : List Int) (t : List Int) : List (List Int) := line.map fun y => t ++ [y]
def lineT (N : List Nat) (av : Nat → Nat → Int) (d : Nat) : List Int := (List.range (N.getD d 0)).map (av d)
def tupT (N : List Nat) (av : Nat → Nat → Int) (d : Nat) : List (List Int) := (lexList (N.take d)).map (tupAt av)
section
variable (x0 : List Int) (kind : Int) (pts : List (List Int)) (start stride cnt blk : List Int)
end
def tuplesT (l0 : List Int) (kind : Int) (pts : List (List Int)) (start stride cnt blk : List Int) : List (List Int) × Int :=
  if (measuredT l0 kind pts start stride cnt blk).2 = 0 then (if (measuredT l0 kind pts start stride cnt blk).1 = 0 then ([], 0) else (selTuples l0 kind pts start stride cnt blk, 0))
  else ([], (measuredT l0 kind pts start stride cnt blk).2)
theorem capT_ok {m : Int} (h : (capT m).2 = 0) : (capT m).1 = m ∧ cap m = m := by
  unfold capT at h ⊢
  unfold cap
  by_cases c : m > 4096
  · rw [if_pos c] at h
    simp at h
  · rw [if_neg c, if_neg c]
    exact ⟨rfl, rfl⟩
theorem meas_sel {l0 : List Int} {kind : Int} {pts : List (List Int)} {start stride cnt blk : List Int} (h : (measuredT l0 kind pts start stride cnt blk).2 = 0) :
    l0.length ≤ 4 ∧ mayT l0.length kind pts start stride cnt blk = true ∧ selT l0 kind pts cnt blk = (measuredT l0 kind pts start stride cnt blk).1 := by
  unfold measuredT at h ⊢
  by_cases he : (elemsT l0).2 = 0
  · rw [if_pos he] at h ⊢
    refine ⟨(elems_good he).1, ?_⟩
    unfold mayT selT
    by_cases k1 : kind = 1
    · rw [if_pos k1] at h ⊢
      rw [if_pos k1, if_pos k1]
      obtain ⟨a, b⟩ := capT_ok h
      exact ⟨rfl, by rw [a, b]⟩
    · rw [if_neg k1] at h ⊢
      rw [if_neg k1, if_neg k1]
      by_cases k2 : kind = 2 ∧ pts.all (rightOne l0.length) = true
      · rw [if_pos k2] at h ⊢
        rw [if_pos k2.1, if_pos k2.1]
        by_cases o : outT l0 pts = true
        · rw [if_pos o] at h
          simp at h
        · rw [if_neg o] at h ⊢
          obtain ⟨a, b⟩ := capT_ok h
          exact ⟨k2.2, by rw [a, b]⟩
      · rw [if_neg k2] at h ⊢
        by_cases k3 : kind = 3 ∧ slabR l0.length start stride cnt blk = true
        · rw [if_pos k3] at h ⊢
          have k2' : kind ≠ 2 := by have := k3.1; omega
          simp only [if_neg k2', if_pos k3.1]
          by_cases o : manyT (cnt ++ blk) > 0 ∧ beyondAt l0 start stride cnt blk 0 = true
          · rw [if_pos o] at h
            simp at h
          · rw [if_neg o] at h ⊢
            obtain ⟨a, b⟩ := capT_ok h
            exact ⟨k3.2, by rw [a, b]⟩
        · rw [if_neg k3] at h
          simp at h
  · rw [if_neg he] at h
    exact absurd h he
theorem great_l0 (kind : Int) (pts : List (List Int)) (start stride cnt blk : List Int) (hm : pts.length ≤ 9223372036854775807) : ∀ (d i : Nat) (x : Int), pts.length - i = d → i ≤ pts.length → ∃ b, Ev (fun k => slabvaultlaw12_great.l0 k x i kind pts start stride cnt blk) b := by
  intro d
  induction d with
  | zero =>
    intro i x h hi
    refine ⟨_, Ev.step (f := fun _ => some (decide (x > 30000))) (fun k => ?_) (Ev.now _)⟩
    simp only [slabvaultlaw12_great.l0]
    rw [if_neg (by omega)]
  | succ d ih =>
    intro i x h hi
    have hlt : i < pts.length := by omega
    by_cases c : wrap64 (x + ((rd_L1 pts i).length : Int)) > 30000
    · refine ⟨_, Ev.step (f := fun _ => some true) (fun k => ?_) (Ev.now _)⟩
      simp only [slabvaultlaw12_great.l0]
      rw [if_pos (by omega), if_pos (by omega), if_pos c]
    · obtain ⟨b, hb⟩ := ih (i + 1) (wrap64 (x + ((rd_L1 pts i).length : Int))) (by omega) (by omega)
      refine ⟨b, Ev.step (f := fun k => slabvaultlaw12_great.l0 k (wrap64 (x + ((rd_L1 pts i).length : Int))) ((i + 1 : Nat) : Int) kind pts start stride cnt blk) (fun k => ?_) hb⟩
      simp only [slabvaultlaw12_great.l0]
      rw [if_pos (by omega), if_pos (by omega), if_neg c, wrap_up hlt hm]
theorem great_ev (kind : Int) (pts : List (List Int)) (start stride cnt blk : List Int) (hm : pts.length ≤ 9223372036854775807) : ∃ b, Ev (fun k => slabvaultlaw12_great.f k kind pts start stride cnt blk) b := by
  exact great_l0 kind pts start stride cnt blk hm pts.length 0 _ (by omega) (by omega)
end Go.Proofs.Ytjbjofmcmjojlaa.Pure
end
section
namespace Go.Proofs.Ytjbjofmcmjojlaa.Pure
open Go.RowKit Go.Proofs.Ytjbjofmcmjojlaa.Wk Go.Proofs.YtjbjofmcmjojlaaW.PrintWords Go.Proofs.YtjbjofmcmjojlaaW.PrintLast Go.Proofs.YtjbjofmcmjojlaaQ
theorem spaceTuples_ev (l0 : List Int) (kind : Int) (pts : List (List Int)) (start stride cnt blk : List Int) (h0 : Fit l0) (h1 : pts.length ≤ 9223372036854775807) (h1' : ∀ x ∈ pts, x.length ≤ 9223372036854775807)
    (h2 : Fit start) (h3 : Fit stride) (h4 : Fit cnt) (h5 : Fit blk) : Ev (fun k => space_Tuples.f k l0 kind pts start stride cnt blk) (tuplesT l0 kind pts start stride cnt blk) := by
  unfold space_Tuples.f
  refine Ev.bind (measured_ev l0 kind pts start stride cnt blk h0 h1 h1' h2 h3 h4 h5) ?_
  unfold tuplesT
  by_cases c : (measuredT l0 kind pts start stride cnt blk).2 = 0
  · by_cases d : (measuredT l0 kind pts start stride cnt blk).1 = 0
    · simp only [if_pos c, if_pos d]
      exact Ev.now _
    · have g := measured_good (n := (measuredT l0 kind pts start stride cnt blk).1) (by rw [← c]) d
      simp only [if_pos c, if_neg d]
      rw [if_pos ⟨g.ok, by have := g.len; have := g.cap; omega, fun x hx => by have := (g.within x hx).1; omega, (meas_sel c).1, by have := g.pos; omega, g.cap⟩]
      exact Ev.now _
  · simp only [if_neg c]
    exact Ev.now _
theorem tuples_facts (l0 : List Int) (kind : Int) (pts : List (List Int)) (start stride cnt blk : List Int) : (tuplesT l0 kind pts start stride cnt blk).2 = (measuredT l0 kind pts start stride cnt blk).2 ∧
    placesT l0 kind pts start stride cnt blk = ((tuplesT l0 kind pts start stride cnt blk).1.map (placeOf l0), (measuredT l0 kind pts start stride cnt blk).2) ∧ (tuplesT l0 kind pts start stride cnt blk).1.length ≤ 4096 ∧
    (∀ x ∈ (tuplesT l0 kind pts start stride cnt blk).1, Within l0 x) ∧ ((measuredT l0 kind pts start stride cnt blk).2 ≠ 0 → (tuplesT l0 kind pts start stride cnt blk).1 = []) := by
  unfold tuplesT placesT
  by_cases c : (measuredT l0 kind pts start stride cnt blk).2 = 0
  · by_cases z : (measuredT l0 kind pts start stride cnt blk).1 = 0
    · simp [c, z]
    · have g := measured_good (n := (measuredT l0 kind pts start stride cnt blk).1) (by rw [← c]) z
      simp only [if_pos c, if_neg z]
      exact ⟨c.symm, by rw [c], by have := g.len; have := g.cap; omega, g.within, fun h => absurd c h⟩
  · simp [c]
def Fits : List Int → List Int → Prop
  | [], [] => True
  | a :: l, b :: x => (0 ≤ b ∧ b < a) ∧ Fits l x
  | _, _ => False
theorem fits_within : ∀ (l x : List Int), Within l x → Fits l x
  | [], [], _ => trivial
  | [], _ :: _, h => by have := h.1; simp at this
  | _ :: _, [], h => by have := h.1; simp at this
  | a :: l, b :: x, h => by
    refine ⟨by simpa [rd] using h.2 0 (by simp), fits_within l x ⟨by simpa using h.1, fun d hd => ?_⟩⟩
    have := h.2 (d + 1) (by simpa using hd)
    have hx : d < x.length := by have := h.1; simp at this; omega
    rw [rd_nat _ _ (by simpa using hx), rd_nat _ _ (by simpa using hd)] at this
    rw [rd_nat _ _ hx, rd_nat _ _ hd]
    simpa using this
theorem fits_take : ∀ (l x : List Int) (d : Nat), Fits l x → Fits (l.take d) (x.take d)
  | [], [], _, _ => by simp [Fits]
  | [], _ :: _, _, h => h.elim
  | _ :: _, [], _, h => h.elim
  | _ :: _, _ :: _, 0, _ => by simp [Fits]
  | _ :: l, _ :: x, d + 1, h => ⟨h.1, fits_take l x d h.2⟩
theorem fits_pos : ∀ (l x : List Int), Fits l x → ∀ y ∈ l, 1 ≤ y
  | [], _, _, y, hy => by simp at hy
  | _ :: _, [], h, _, _ => h.elim
  | a :: l, b :: x, h, y, hy => by
    rcases List.mem_cons.1 hy with rfl | hy
    · have := h.1; omega
    · exact fits_pos l x h.2 y hy
theorem horn_bounds : ∀ (l x : List Int), Fits l x → 0 ≤ horn l x ∧ horn l x < lprod l
  | [], [], _ => by simp [horn, lprod]
  | [], _ :: _, h => h.elim
  | _ :: _, [], h => h.elim
  | a :: l, b :: x, h => by
    obtain ⟨h1, h2⟩ := horn_bounds l x h.2
    have hL : 0 ≤ lprod l := by omega
    have p0 : 0 ≤ b * lprod l := Int.mul_nonneg h.1.1 hL
    have p1 : (b + 1) * lprod l ≤ a * lprod l := Int.mul_le_mul_of_nonneg_right (by have := h.1.2; omega) hL
    rw [Int.add_mul, Int.one_mul] at p1
    rw [lprod_cons]
    show 0 ≤ b * lprod l + horn l x ∧ b * lprod l + horn l x < a * lprod l
    omega
theorem horn_snoc : ∀ (l x : List Int) (a b : Int), l.length = x.length → horn (l ++ [a]) (x ++ [b]) = horn l x * a + b
  | [], [], a, b, _ => by simp [horn, lprod]
  | [], _ :: _, _, _, h => by simp at h
  | _ :: _, [], _, _, h => by simp at h
  | c :: l, e :: x, a, b, h => by
    show e * lprod (l ++ [a]) + horn (l ++ [a]) (x ++ [b]) = (e * lprod l + horn l x) * a + b
    rw [horn_snoc l x a b (by simpa using h), lprod_append, Int.add_mul]
    have : lprod [a] = a := by simp [lprod]
    rw [this, Int.mul_assoc]
    omega
end Go.Proofs.Ytjbjofmcmjojlaa.Pure
end
section
namespace Go.Proofs.Ytjbjofmcmjojlaa.Pure
open Go.RowKit Go.Proofs.Ytjbjofmcmjojlaa.Wk Go.Proofs.YtjbjofmcmjojlaaW.PrintWords Go.Proofs.YtjbjofmcmjojlaaW.PrintLast Go.Proofs.YtjbjofmcmjojlaaQ
theorem fit_wf {l : List Int} (hm : l.length ≤ maxLen) (h : ∀ x ∈ l, (Lit.int .i64 x).wf = true) : Fit l := by
  refine ⟨hm, fun x hx => ?_⟩
  have := h x hx
  simpa [Lit.wf, IntKind.min, IntKind.max, IntKind.signed, IntKind.bits] using this
theorem ins_l1 (l0 : List Int) (n : Int) (T : List (List Int)) (P : List Int) (i : Nat) (hi : i < T.length) (h4 : l0.length ≤ 4) (hT : T.length ≤ 4096) (hw : Within l0 (T[i])) (hL : lprod l0 ≤ 1048576)
    (hr : Ev (fun k => slabvaultlaw12_SpaceInside.l0 k l0 n T P ((i + 1 : Nat) : Int)) true) : ∀ d : Nat, d ≤ l0.length →
    Ev (fun k => slabvaultlaw12_SpaceInside.l1 k l0 n T P i (horn (l0.take d) ((T[i]).take d)) ((d : Int) - 1)) true := by
  have hx : rd_L1 T i = T[i] := rdL1_nat T i hi
  have hxl := hw.1
  have hF := fits_within _ _ hw
  have hpos := fits_pos _ _ hF
  intro d
  induction d with
  | zero =>
    intro _
    refine Ev.step (f := fun k => slabvaultlaw12_SpaceInside.l0 k l0 n T P ((i + 1 : Nat) : Int)) (fun k => ?_) hr
    simp only [slabvaultlaw12_SpaceInside.l1]
    rw [if_neg (by omega), wrap_up hi (by omega)]
  | succ d ih =>
    intro hd
    have hlt : d < l0.length := by omega
    have hltx : d < (T[i]).length := by omega
    have e1 : l0.take (d + 1) = l0.take d ++ [rd l0 d] := by rw [List.take_succ_eq_append_getElem hlt, rd_nat l0 d hlt]
    have e2 : (T[i]).take (d + 1) = (T[i]).take d ++ [rd (T[i]) d] := by rw [List.take_succ_eq_append_getElem hltx, rd_nat (T[i]) d hltx]
    have hb := hw.2 d hlt
    have hS : horn (l0.take (d + 1)) ((T[i]).take (d + 1)) = horn (l0.take d) ((T[i]).take d) * rd l0 d + rd (T[i]) d := by
      rw [e1, e2, horn_snoc _ _ _ _ (by rw [List.length_take, List.length_take]; omega)]
    obtain ⟨b0, b1⟩ := horn_bounds _ _ (fits_take _ _ d hF)
    have hlp : lprod (l0.take d) ≤ lprod l0 := by
      have e : lprod l0 = lprod (l0.take d) * lprod (l0.drop d) := by rw [← lprod_append, List.take_append_drop]
      have p1 := lprod_pos (fun y hy => hpos y (List.mem_of_mem_drop (i := d) hy))
      have p2 := lprod_pos (fun y hy => hpos y (List.mem_of_mem_take (i := d) hy))
      have := Int.mul_le_mul_of_nonneg_left p1 (show (0 : Int) ≤ lprod (l0.take d) by omega)
      rw [e]
      omega
    generalize horn (l0.take d) ((T[i]).take d) = h at *
    have p0 : 0 ≤ h * rd l0 d := Int.mul_nonneg b0 (by omega)
    have hm : Int.tmod (h * rd l0 d + rd (T[i]) d) (rd l0 d) = rd (T[i]) d := by
      rw [Int.tmod_eq_emod_of_nonneg (by omega), Int.add_comm, Int.add_mul_emod_self_right, Int.emod_eq_of_lt hb.1 hb.2]
    have hq : Int.tdiv (h * rd l0 d + rd (T[i]) d) (rd l0 d) = h := by
      rw [Int.tdiv_eq_ediv_of_nonneg (by omega), Int.add_comm, Int.add_mul_ediv_right _ _ (by omega), Int.ediv_eq_zero_of_lt hb.1 hb.2, Int.zero_add]
    refine Ev.step (f := fun k => slabvaultlaw12_SpaceInside.l1 k l0 n T P i h ((d : Int) - 1)) (fun k => ?_) (ih (by omega))
    simp only [slabvaultlaw12_SpaceInside.l1]
    have ed : ((d + 1 : Nat) : Int) - 1 = d := by omega
    rw [ed, hS, hx, if_pos (by omega), if_pos (by omega), if_pos (by omega), if_pos (by omega), if_pos (by omega), if_pos (by omega), if_neg (by omega), hm, if_pos rfl, hq, show wrap64 h = h by unfold wrap64; omega, show wrap64 ((d : Int) - 1) = (d : Int) - 1 by unfold wrap64; omega]
theorem ins_l0 (l0 : List Int) (n : Int) (T : List (List Int)) (h4 : l0.length ≤ 4) (hT : T.length ≤ 4096) (hw : ∀ x ∈ T, Within l0 x) (hn : T ≠ [] → n = lprod l0) (hn2 : n ≤ 1048576) : ∀ (d i : Nat), T.length - i = d → i ≤ T.length →
    Ev (fun k => slabvaultlaw12_SpaceInside.l0 k l0 n T (T.map (placeOf l0)) i) true := by
  intro d
  induction d with
  | zero =>
    intro i h hi
    refine Ev.step (f := fun k => (slabvaultlaw12_lives.f k).bind fun t => some t) (fun k => ?_) (Ev.bind lives_ev (Ev.now true))
    simp only [slabvaultlaw12_SpaceInside.l0]
    rw [if_neg (by omega)]
  | succ d ih =>
    intro i h hi
    have hlt : i < T.length := by omega
    have hwi := hw _ (List.getElem_mem hlt)
    have hF := fits_within _ _ hwi
    have hnl : n = lprod l0 := hn (fun e => by rw [e] at hlt; simp at hlt)
    have hx : rd_L1 T i = T[i] := rdL1_nat T i hlt
    have hp : rd (T.map (placeOf l0)) i = horn l0 (T[i]) := by
      rw [rd_nat _ i (by rw [List.length_map]; exact hlt), List.getElem_map, place_eq l0 _ hwi (fits_pos _ _ hF) (by omega)]
    obtain ⟨b0, b1⟩ := horn_bounds _ _ hF
    have hl1 := ins_l1 l0 n T (T.map (placeOf l0)) i hlt h4 hT hwi (by omega) (ih (i + 1) (by omega) (by omega)) l0.length (by omega)
    rw [List.take_length, List.take_of_length_le (by have := hwi.1; omega)] at hl1
    refine Ev.step (f := fun k => slabvaultlaw12_SpaceInside.j3 k l0 n T (T.map (placeOf l0)) i false) (fun k => ?_) (Ev.step (f := fun k => slabvaultlaw12_SpaceInside.l1 k l0 n T (T.map (placeOf l0)) i (horn l0 (T[i])) ((l0.length : Int) - 1)) (fun k => ?_) hl1)
    · simp only [slabvaultlaw12_SpaceInside.l0]
      have e : (((rd_L1 T i).length : Int) != (l0.length : Int)) = false := by rw [hx, hwi.1]; simp
      rw [if_pos (by omega), if_pos (by omega), if_pos (by rw [List.length_map]; omega), hp, if_neg (by omega), if_neg (by omega), e]
    · simp only [slabvaultlaw12_SpaceInside.j3]
      rw [if_neg (by simp), if_pos (by omega), if_pos (by rw [List.length_map]; omega), hp, show wrap64 ((l0.length : Int) - 1) = (l0.length : Int) - 1 by unfold wrap64; omega]
theorem SpaceInside (l0 : List Int) (kind : Int) (pts : List (List Int)) (start stride cnt blk : List Int) (h0 : Fit l0) (h1 : pts.length ≤ 9223372036854775807) (h1' : ∀ x ∈ pts, x.length ≤ 9223372036854775807)
    (h2 : Fit start) (h3 : Fit stride) (h4 : Fit cnt) (h5 : Fit blk) : ∃ k, slabvaultlaw12_SpaceInside.f k l0 kind pts start stride cnt blk = some true := by
  refine Ev.rounds (g := fun k => slabvaultlaw12_SpaceInside.f k l0 kind pts start stride cnt blk) (r := true) ?_
  unfold slabvaultlaw12_SpaceInside.f
  obtain ⟨b, hb⟩ := great_ev kind pts start stride cnt blk h1
  refine Ev.bind hb ?_
  cases b with
  | true =>
    simp only [if_true]
    exact Ev.bind lives_ev (Ev.now true)
  | false =>
    simp only [Bool.false_eq_true, if_false]
    have tev := spaceTuples_ev l0 kind pts start stride cnt blk h0 h1 h1' h2 h3 h4 h5
    have pev := places_ev l0 kind pts start stride cnt blk h0 h1 h1' h2 h3 h4 h5
    obtain ⟨f1, f2, f3, f4, f5⟩ := tuples_facts l0 kind pts start stride cnt blk
    rw [elements_eq]
    simp only [Option.bind_some]
    refine Ev.bind tev ?_
    rw [f2] at pev
    refine Ev.bind pev ?_
    rw [f1]
    generalize hT : (tuplesT l0 kind pts start stride cnt blk).1 = T at *
    simp only [if_true, List.length_map, bne_self_eq_false]
    by_cases he : (elemsT l0).2 = 0
    · by_cases hm : (measuredT l0 kind pts start stride cnt blk).2 = 0
      · obtain ⟨g1, g2, g3, g4⟩ := elems_good he
        have hn : T ≠ [] → (elemsT l0).1 = lprod l0 := by
          intro hne
          obtain ⟨x, T', rfl⟩ := List.exists_cons_of_ne_nil hne
          have hpos := fits_pos _ _ (fits_within _ _ (f4 x (by simp)))
          rcases g4 with ⟨_, z⟩ | ⟨_, e⟩
          · have := hpos 0 (List.contains_iff_mem.1 z)
            omega
          · exact e
        have hl := ins_l0 l0 (elemsT l0).1 T g1 f3 f4 hn g3 T.length 0 (by omega) (by omega)
        refine Ev.step (f := fun k => slabvaultlaw12_SpaceInside.j1 k l0 (elemsT l0).1 0 T 0 (T.map (placeOf l0)) false) (fun k => ?_) (Ev.step (f := fun k => slabvaultlaw12_SpaceInside.l0 k l0 (elemsT l0).1 T (T.map (placeOf l0)) ((0 : Nat) : Int)) (fun k => ?_) hl)
        · simp only [slabvaultlaw12_SpaceInside.j0]
          rw [if_neg (by simp), if_pos he, hm, he]
          rfl
        · simp only [slabvaultlaw12_SpaceInside.j1]
          rw [if_neg (by simp)]
          rfl
      · have hT0 := f5 hm
        refine Ev.step (f := fun k => slabvaultlaw12_SpaceInside.j1 k l0 (elemsT l0).1 0 [] (measuredT l0 kind pts start stride cnt blk).2 [] true) (fun k => ?_) (Ev.step (f := fun k => (slabvaultlaw12_lives.f k).bind fun t => some t) (fun k => ?_) (Ev.bind lives_ev (Ev.now true)))
        · simp only [slabvaultlaw12_SpaceInside.j0]
          rw [if_neg (by simp), if_pos he, he, hT0, show ((measuredT l0 kind pts start stride cnt blk).2 != 0) = true by simpa using hm]
          rfl
        · simp only [slabvaultlaw12_SpaceInside.j1]
          rw [if_pos trivial, if_pos (by simp), if_pos trivial]
    · have hme : (measuredT l0 kind pts start stride cnt blk).2 = (elemsT l0).2 := by unfold measuredT; rw [if_neg he]
      have hT0 := f5 (by rw [hme]; exact he)
      refine Ev.step (f := fun k => slabvaultlaw12_SpaceInside.j1 k l0 (elemsT l0).1 (elemsT l0).2 [] (elemsT l0).2 [] true) (fun k => ?_) (Ev.step (f := fun k => (slabvaultlaw12_lives.f k).bind fun t => some t) (fun k => ?_) (Ev.bind lives_ev (Ev.now true)))
      · simp only [slabvaultlaw12_SpaceInside.j0]
        rw [if_neg (by simp), if_neg he, hT0, hme]
        rfl
      · simp only [slabvaultlaw12_SpaceInside.j1]
        rw [if_pos trivial, if_pos (by simp), if_neg he, if_pos trivial]
end Go.Proofs.Ytjbjofmcmjojlaa.Pure
end
