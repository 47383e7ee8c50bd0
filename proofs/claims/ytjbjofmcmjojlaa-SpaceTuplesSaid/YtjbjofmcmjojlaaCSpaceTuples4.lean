-- Texts that the row SpaceTuples leans on, joined by wip/tools/mkclaim.py: Wkslabvaultref12_Tuples
import Derived.Test.YtjbjofmcmjojlaaCSpaceTuples3
section
namespace Go.Proofs.Ytjbjofmcmjojlaa.Wk
open Go.RowKit Go.Proofs.YtjbjofmcmjojlaaW.PrintWords Go.Proofs.YtjbjofmcmjojlaaW.PrintLast Go.Proofs.YtjbjofmcmjojlaaW.PrintMore
attribute [local go_sem] max2_int min2_int max_two min_two max_three min_three max_four min_four
set_option linter.unusedVariables false
set_option linter.unusedSimpArgs false
mutual
def slabvaultref12_Tuples.l0 : Nat → List (List Int) → Int → Int → List (List Int) → List Int → List Int → List Int → List Int → Option ((List (List Int)) × Int)
 | 0, _, _, _, _, _, _, _, _ => none
 | k + 1, x7, x8, x242000, x242001, x242002, x242003, x242004, x242005 => if x8 < (x242001.length : Int) then ((some (([] : List Int) : List Int)).bind fun y243 => (if 0 ≤ x8 then (if y243.length + (rd_L1 x242001 x8).length < 17592186044416 then ((some (([(y243 ++ (rd_L1 x242001 x8))] : List (List Int)) : List (List Int))).bind fun y250 => (if x7.length + y250.length < 5864062014805 then (slabvaultref12_Tuples.l0 k (x7 ++ y250) (wrap64 (x8 + 1)) x242000 x242001 x242002 x242003 x242004 x242005) else (none))) else (none)) else (none))) else (some (x7, 0))
def slabvaultref12_Tuples.l1 : Nat → List Int → List (List Int) → Int → Int → List (List Int) → List Int → List Int → List Int → List Int → Option ((List (List Int)) × Int)
 | 0, _, _, _, _, _, _, _, _, _ => none
 | k + 1, x0, x7, x9, x242000, x242001, x242002, x242003, x242004, x242005 => if x9 < (x0.length : Int) then (if x242000 = 1 then (slabvaultref12_Tuples.l2 k x0 x7 x9 ([] : List Int) 0 x242000 x242001 x242002 x242003 x242004 x242005) else (slabvaultref12_Tuples.l3 k x0 x7 x9 ([] : List Int) 0 x242000 x242001 x242002 x242003 x242004 x242005)) else (some (x7, 0))
def slabvaultref12_Tuples.j5 : Nat → List Int → List (List Int) → Int → List Int → Int → List (List Int) → List Int → List Int → List Int → List Int → Option ((List (List Int)) × Int)
 | 0, _, _, _, _, _, _, _, _, _, _ => none
 | k + 1, x0, x7, x9, x10, x242000, x242001, x242002, x242003, x242004, x242005 => slabvaultref12_Tuples.l5 k x0 x7 x9 x10 ([] : List (List Int)) 0 x242000 x242001 x242002 x242003 x242004 x242005
def slabvaultref12_Tuples.l5 : Nat → List Int → List (List Int) → Int → List Int → List (List Int) → Int → Int → List (List Int) → List Int → List Int → List Int → List Int → Option ((List (List Int)) × Int)
 | 0, _, _, _, _, _, _, _, _, _, _, _, _ => none
 | k + 1, x0, x7, x9, x10, x14, x15, x242000, x242001, x242002, x242003, x242004, x242005 => if x15 < (x7.length : Int) then (slabvaultref12_Tuples.l6 k x0 x7 x9 x10 x14 x15 0 x242000 x242001 x242002 x242003 x242004 x242005) else (slabvaultref12_Tuples.l1 k x0 x14 (wrap64 (x9 + 1)) x242000 x242001 x242002 x242003 x242004 x242005)
def slabvaultref12_Tuples.l6 : Nat → List Int → List (List Int) → Int → List Int → List (List Int) → Int → Int → Int → List (List Int) → List Int → List Int → List Int → List Int → Option ((List (List Int)) × Int)
 | 0, _, _, _, _, _, _, _, _, _, _, _, _, _ => none
 | k + 1, x0, x7, x9, x10, x14, x15, x16, x242000, x242001, x242002, x242003, x242004, x242005 => if x16 < (x10.length : Int) then ((some (([] : List Int) : List Int)).bind fun y280 => (if 0 ≤ x15 then (if x15 < (x7.length : Int) then (if y280.length + (rd_L1 x7 x15).length < 17592186044416 then ((some (y280 ++ (rd_L1 x7 x15) : List Int)).bind fun y284 => (if 0 ≤ x16 then ((some (([rd x10 x16] : List Int) : List Int)).bind fun y288 => (if y284.length + y288.length < 17592186044416 then ((some (([(y284 ++ y288)] : List (List Int)) : List (List Int))).bind fun y294 => (if x14.length + y294.length < 5864062014805 then (slabvaultref12_Tuples.l6 k x0 x7 x9 x10 (x14 ++ y294) x15 (wrap64 (x16 + 1)) x242000 x242001 x242002 x242003 x242004 x242005) else (none))) else (none))) else (none))) else (none)) else (none)) else (none))) else (slabvaultref12_Tuples.l5 k x0 x7 x9 x10 x14 (wrap64 (x15 + 1)) x242000 x242001 x242002 x242003 x242004 x242005)
def slabvaultref12_Tuples.l2 : Nat → List Int → List (List Int) → Int → List Int → Int → Int → List (List Int) → List Int → List Int → List Int → List Int → Option ((List (List Int)) × Int)
 | 0, _, _, _, _, _, _, _, _, _, _, _ => none
 | k + 1, x0, x7, x9, x10, x11, x242000, x242001, x242002, x242003, x242004, x242005 => if 0 ≤ x9 then (if x9 < (x0.length : Int) then (if x11 < (rd x0 x9) then ((some (([x11] : List Int) : List Int)).bind fun y264 => (if x10.length + y264.length < 17592186044416 then (slabvaultref12_Tuples.l2 k x0 x7 x9 (x10 ++ y264) (wrap64 (x11 + 1)) x242000 x242001 x242002 x242003 x242004 x242005) else (none))) else (slabvaultref12_Tuples.j5 k x0 x7 x9 x10 x242000 x242001 x242002 x242003 x242004 x242005)) else (none)) else (none)
def slabvaultref12_Tuples.l3 : Nat → List Int → List (List Int) → Int → List Int → Int → Int → List (List Int) → List Int → List Int → List Int → List Int → Option ((List (List Int)) × Int)
 | 0, _, _, _, _, _, _, _, _, _, _, _ => none
 | k + 1, x0, x7, x9, x10, x12, x242000, x242001, x242002, x242003, x242004, x242005 => if 0 ≤ x9 then (if x9 < (x242004.length : Int) then (if x12 < (rd x242004 x9) then (slabvaultref12_Tuples.l4 k x0 x7 x9 x10 x12 0 x242000 x242001 x242002 x242003 x242004 x242005) else (slabvaultref12_Tuples.j5 k x0 x7 x9 x10 x242000 x242001 x242002 x242003 x242004 x242005)) else (none)) else (none)
def slabvaultref12_Tuples.l4 : Nat → List Int → List (List Int) → Int → List Int → Int → Int → Int → List (List Int) → List Int → List Int → List Int → List Int → Option ((List (List Int)) × Int)
 | 0, _, _, _, _, _, _, _, _, _, _, _, _ => none
 | k + 1, x0, x7, x9, x10, x12, x13, x242000, x242001, x242002, x242003, x242004, x242005 => if 0 ≤ x9 then (if x9 < (x242005.length : Int) then (if x13 < (rd x242005 x9) then (if x9 < (x242002.length : Int) then (if x9 < (x242003.length : Int) then ((some (([wrap64 ((wrap64 ((rd x242002 x9) + (wrap64 (x12 * (rd x242003 x9))))) + x13)] : List Int) : List Int)).bind fun y274 => (if x10.length + y274.length < 17592186044416 then (slabvaultref12_Tuples.l4 k x0 x7 x9 (x10 ++ y274) x12 (wrap64 (x13 + 1)) x242000 x242001 x242002 x242003 x242004 x242005) else (none))) else (none)) else (none)) else (slabvaultref12_Tuples.l3 k x0 x7 x9 x10 (wrap64 (x12 + 1)) x242000 x242001 x242002 x242003 x242004 x242005)) else (none)) else (none)
end
def slabvaultref12_Tuples.f (k : Nat) (l0 : List Int) (a1_0 : Int) (l1_1 : List (List Int)) (l1_2 : List Int) (l1_3 : List Int) (l1_4 : List Int) (l1_5 : List Int) : Option ((List (List Int)) × Int) := (slabvaultref12_Check.f k l0 a1_0 l1_1 l1_2 l1_3 l1_4 l1_5).bind fun t242 => (if t242 = 0 then (if a1_0 = 2 then (slabvaultref12_Tuples.l0 k ([] : List (List Int)) 0 a1_0 l1_1 l1_2 l1_3 l1_4 l1_5) else ((slabvaultref12_selected.f k l0 a1_0 l1_1 l1_2 l1_3 l1_4 l1_5).bind fun t256 => (if t256 = 0 then (some (([] : List (List Int)), 0)) else (slabvaultref12_Tuples.l1 k l0 (([(([] : List Int))] : List (List Int))) 0 a1_0 l1_1 l1_2 l1_3 l1_4 l1_5)))) else (some (([] : List (List Int)), t242)))
def slabvaultref12_Tuples.T29 : Bool × List (List Nat × List Nat) := (true, [([], []), ([], []), ([1], [1]), ([], []), ([2, 3], [2, 3]), ([4], [4]), ([], []), ([], []), ([7], [7]), ([], []), ([8, 9], [8, 9]), ([10], [10]), ([6, 11], [6, 11]), ([5, 12], [5, 12]), ([], []), ([13, 14], [13, 14]), ([15], [15]), ([0, 16], [0, 16]), ([17, 17, 0, 1, 2, 3, 4, 5, 6, 7, 8, 9, 10, 11, 12, 13, 14, 15, 16, 17], [0, 17])])
def slabvaultref12_Tuples.B29 : List Nat := [0, 0, 2, 0, 14, 30, 0, 0, 128, 0, 896, 1920, 4032, 8190, 0, 32766, 65534, 131071, 262143]
theorem slabvaultref12_Tuples.tab29 : rtab .any (opsOf Try.f23 29) = slabvaultref12_Tuples.T29 := by kernel_rfl
theorem slabvaultref12_Tuples.bits29 : waitsOk slabvaultref12_Tuples.T29.2 slabvaultref12_Tuples.B29 = true := by kernel_rfl
def slabvaultref12_Tuples.T37 : Bool × List (List Nat × List Nat) := (true, [([], []), ([], []), ([], []), ([], []), ([2, 3], [2, 3]), ([4], [4]), ([1, 5], [1, 5]), ([], []), ([], []), ([7, 8], [7, 8]), ([9], [9]), ([10], [10]), ([6, 11, 6], [6, 11]), ([12], [12]), ([0, 13, 12], [0, 13]), ([14, 14, 0, 1, 2, 3, 4, 5, 6, 7, 8, 9, 10, 11, 12, 13, 14], [0, 14])])
def slabvaultref12_Tuples.B37 : List Nat := [0, 0, 0, 0, 12, 28, 62, 0, 0, 384, 896, 1920, 4094, 8190, 16383, 32767]
theorem slabvaultref12_Tuples.tab37 : rtab .any (opsOf Try.f23 37) = slabvaultref12_Tuples.T37 := by kernel_rfl
theorem slabvaultref12_Tuples.bits37 : waitsOk slabvaultref12_Tuples.T37.2 slabvaultref12_Tuples.B37 = true := by kernel_rfl
set_option maxHeartbeats 8000000 in
set_option maxRecDepth 100000 in
theorem slabvaultref12_Tuples.calls (k : Nat) (A0 : Option Addr) (c0 : Nat) (l0 : List Int) (a1_0 : Int) (A1_1 : Option Addr) (c1_1 : Nat) (l1_1 : List (List Int)) (A1_2 : Option Addr) (c1_2 : Nat) (l1_2 : List Int) (A1_3 : Option Addr) (c1_3 : Nat) (l1_3 : List Int) (A1_4 : Option Addr) (c1_4 : Nat) (l1_4 : List Int) (A1_5 : Option Addr) (c1_5 : Nat) (l1_5 : List Int) (r1 : List (List Int)) (r2 : Int) (w : World) (hr0 : Kd.C (Kd.int .i64) w A0 l0.length l0) (hc0 : l0.length ≤ c0) (hr1_1 : Kd.C (Kd.slice 3 (Kd.int .i64)) w A1_1 l1_1.length l1_1) (hc1_1 : l1_1.length ≤ c1_1) (hr1_2 : Kd.C (Kd.int .i64) w A1_2 l1_2.length l1_2) (hc1_2 : l1_2.length ≤ c1_2) (hr1_3 : Kd.C (Kd.int .i64) w A1_3 l1_3.length l1_3) (hc1_3 : l1_3.length ≤ c1_3) (hr1_4 : Kd.C (Kd.int .i64) w A1_4 l1_4.length l1_4) (hc1_4 : l1_4.length ≤ c1_4) (hr1_5 : Kd.C (Kd.int .i64) w A1_5 l1_5.length l1_5) (hc1_5 : l1_5.length ≤ c1_5) (h : slabvaultref12_Tuples.f k l0 a1_0 l1_1 l1_2 l1_3 l1_4 l1_5 = some (r1, r2)) :
 Calls Try.prog 23 #[.slice A0 l0.length c0, .agg #[.int .i64 a1_0, .slice A1_1 l1_1.length c1_1, .slice A1_2 l1_2.length c1_2, .slice A1_3 l1_3.length c1_3, .slice A1_4 l1_4.length c1_4, .slice A1_5 l1_5.length c1_5]] w fun e w' => ∃ v0_ : Value, e = .returned (.tuple #[v0_, .int .i64 r2]) ∧ Kd.N (Kd.slice 3 (Kd.int .i64)) 22 w' w.heap.size (fun k_ => (w.heap.size ≤ k_)) v0_ r1 ∧ Below w.heap.size w w' := by
 have hu33 := Try.underlying33
 have HR0 := Aside0.mk hr0
 have HC0 := Aside0.mk hc0
 clear hr0 hc0
 have HR1_1 := Aside0.mk hr1_1
 have HC1_1 := Aside0.mk hc1_1
 clear hr1_1 hc1_1
 have HR1_2 := Aside0.mk hr1_2
 have HC1_2 := Aside0.mk hc1_2
 clear hr1_2 hc1_2
 have HR1_3 := Aside0.mk hr1_3
 have HC1_3 := Aside0.mk hc1_3
 clear hr1_3 hc1_3
 have HR1_4 := Aside0.mk hr1_4
 have HC1_4 := Aside0.mk hc1_4
 clear hr1_4 hc1_4
 have HR1_5 := Aside0.mk hr1_5
 have HC1_5 := Aside0.mk hc1_5
 clear hr1_5 hc1_5
 have HB := Aside0.mk (Below.refl w.heap.size w)
 have H : ((slabvaultref12_Check.f k l0 a1_0 l1_1 l1_2 l1_3 l1_4 l1_5).bind fun t242 => (if t242 = 0 then (if a1_0 = 2 then (slabvaultref12_Tuples.l0 k ([] : List (List Int)) 0 a1_0 l1_1 l1_2 l1_3 l1_4 l1_5) else ((slabvaultref12_selected.f k l0 a1_0 l1_1 l1_2 l1_3 l1_4 l1_5).bind fun t256 => (if t256 = 0 then (some (([] : List (List Int)), 0)) else (slabvaultref12_Tuples.l1 k l0 (([(([] : List Int))] : List (List Int))) 0 a1_0 l1_1 l1_2 l1_3 l1_4 l1_5)))) else (some (([] : List (List Int)), t242)))) = some (r1, r2) := h
 clear h
 replace H := Option.bind_eq_some_iff.mp H
 obtain ⟨t242, A30, H⟩ := H
 replace H : (if t242 = 0 then (if a1_0 = 2 then (slabvaultref12_Tuples.l0 k ([] : List (List Int)) 0 a1_0 l1_1 l1_2 l1_3 l1_4 l1_5) else ((slabvaultref12_selected.f k l0 a1_0 l1_1 l1_2 l1_3 l1_4 l1_5).bind fun t256 => (if t256 = 0 then (some (([] : List (List Int)), 0)) else (slabvaultref12_Tuples.l1 k l0 (([(([] : List Int))] : List (List Int))) 0 a1_0 l1_1 l1_2 l1_3 l1_4 l1_5)))) else (some (([] : List (List Int)), t242))) = some (r1, r2) := H
 have A3 := Aside0.mk A30
 clear A30
 by_cases c4 : t242 = 0
 ·rw [if_pos c4] at H
  have c4b0 : (t242 == 0) = true := beq_iff_eq.mpr c4
  have c4b1 : (t242 != 0) = false := bne_eq_false_iff_eq.mpr c4
  clear c4
  by_cases c5 : a1_0 = 2
  ·rw [if_pos c5] at H
   have c5b0 : (a1_0 == 2) = true := beq_iff_eq.mpr c5
   have c5b1 : (a1_0 != 2) = false := bne_eq_false_iff_eq.mpr c5
   clear c5
   have H' := Aside0.mk H
   clear H
   go_enter Try.func23, Try.ntmps23
   go_wp2_with (first | ((with_reducible refine gate_dst (N := 3) rfl ?_); refine box_event ?hg (N := 3) ?hd (cs := #[.int .i64 a1_0, .slice A1_1 l1_1.length c1_1, .slice A1_2 l1_2.length c1_2, .slice A1_3 l1_3.length c1_3, .slice A1_4 l1_4.length c1_4, .slice A1_5 l1_5.length c1_5]) (t := 33) ?hr ?_; (case hd => rfl); (case hg => rfl); (case hr => (go_simp; done)); intro gb241 hg w6 hbox hb; have n0_ := Aside0.mk (below_step (HB.out) hb); have n1_ := Aside0.mk (hbox); have n2_ := Aside0.mk ((by rw [hg]; exact (below_size (HB.out)) : w.heap.size ≤ gb241)); have n3_ := Aside0.mk ((by rw [hg]; exact (below_size (HB.out)) : w.heap.size ≤ gb241)); clear HB; have HB := n0_; have BK241 := n1_; have GW241 := n2_; have GE241 := n3_; clear n0_ n1_ n2_ n3_; clear hb hbox hg; have hcz7_0 : w6.cell? ⟨gb241, 0, none⟩ = some (.int .i64 a1_0) := (blk_cell BK241.out 0).trans rfl; have hcz7_1 : w6.cell? ⟨gb241, 1, none⟩ = some (.slice A1_1 l1_1.length c1_1) := (blk_cell BK241.out 1).trans rfl; have hcz7_2 : w6.cell? ⟨gb241, 2, none⟩ = some (.slice A1_2 l1_2.length c1_2) := (blk_cell BK241.out 2).trans rfl; have hcz7_3 : w6.cell? ⟨gb241, 3, none⟩ = some (.slice A1_3 l1_3.length c1_3) := (blk_cell BK241.out 3).trans rfl; have hcz7_4 : w6.cell? ⟨gb241, 4, none⟩ = some (.slice A1_4 l1_4.length c1_4) := (blk_cell BK241.out 4).trans rfl; have hcz7_5 : w6.cell? ⟨gb241, 5, none⟩ = some (.slice A1_5 l1_5.length c1_5) := (blk_cell BK241.out 5).trans rfl; have hfz7_0 := blk_frozen BK241.out 0; have hfz7_1 := blk_frozen BK241.out 1; have hfz7_2 := blk_frozen BK241.out 2; have hfz7_3 := blk_frozen BK241.out 3; have hfz7_4 := blk_frozen BK241.out 4; have hfz7_5 := blk_frozen BK241.out 5) | ((with_reducible refine gate_callee (f := 20) rfl ?_); refine goesL_ (some 19) rfl rfl Try.func20 (by kernel_rfl) rfl #[.slice A0 l0.length c0, .agg #[.int .i64 a1_0, .slice A1_1 l1_1.length c1_1, .slice A1_2 l1_2.length c1_2, .slice A1_3 l1_3.length c1_3, .slice A1_4 l1_4.length c1_4, .slice A1_5 l1_5.length c1_5]] rfl (by (simp only [List.map_toArray, List.map_cons, List.map_nil]); rfl) ?_; (with_reducible refine (slabvaultref12_Check.calls k _ _ l0 a1_0 _ _ l1_1 _ _ l1_2 _ _ l1_3 _ _ l1_4 _ _ l1_5 t242 _ ?side1 ?side2 ?side3 ?side4 ?side5 ?side6 ?side7 ?side8 ?side9 ?side10 ?side11 ?side12 A3.out).mono ?_); (case side1 => repeat (exact (Kd.C_below HR0.out HB.out))); (case side2 => exact HC0.out); (case side3 => repeat (exact (Kd.C_below HR1_1.out HB.out))); (case side4 => exact HC1_1.out); (case side5 => repeat (exact (Kd.C_below HR1_2.out HB.out))); (case side6 => exact HC1_2.out); (case side7 => repeat (exact (Kd.C_below HR1_3.out HB.out))); (case side8 => exact HC1_3.out); (case side9 => repeat (exact (Kd.C_below HR1_4.out HB.out))); (case side10 => exact HC1_4.out); (case side11 => repeat (exact (Kd.C_below HR1_5.out HB.out))); (case side12 => exact HC1_5.out); rintro e w8 ⟨rfl, hb⟩; refine ⟨_, rfl, ?_⟩; have n0_ := Aside0.mk (blk_below (g := gb241) (o := .cells #[.int .i64 a1_0, .slice A1_1 l1_1.length c1_1, .slice A1_2 l1_2.length c1_2, .slice A1_3 l1_3.length c1_3, .slice A1_4 l1_4.length c1_4, .slice A1_5 l1_5.length c1_5] 33 (0, 0)) (by exact BK241.out) hb); have n1_ := Aside0.mk (below_step (HB.out) hb); clear BK241; clear HB; have BK241 := n0_; have HB := n1_; clear n0_ n1_; (clear hb); (skip); (skip); (skip); have hcz9_0 : w8.cell? ⟨gb241, 0, none⟩ = some (.int .i64 a1_0) := (blk_cell BK241.out 0).trans rfl; have hcz9_1 : w8.cell? ⟨gb241, 1, none⟩ = some (.slice A1_1 l1_1.length c1_1) := (blk_cell BK241.out 1).trans rfl; have hcz9_2 : w8.cell? ⟨gb241, 2, none⟩ = some (.slice A1_2 l1_2.length c1_2) := (blk_cell BK241.out 2).trans rfl; have hcz9_3 : w8.cell? ⟨gb241, 3, none⟩ = some (.slice A1_3 l1_3.length c1_3) := (blk_cell BK241.out 3).trans rfl; have hcz9_4 : w8.cell? ⟨gb241, 4, none⟩ = some (.slice A1_4 l1_4.length c1_4) := (blk_cell BK241.out 4).trans rfl; have hcz9_5 : w8.cell? ⟨gb241, 5, none⟩ = some (.slice A1_5 l1_5.length c1_5) := (blk_cell BK241.out 5).trans rfl; have hfz9_0 := blk_frozen BK241.out 0; have hfz9_1 := blk_frozen BK241.out 1; have hfz9_2 := blk_frozen BK241.out 2; have hfz9_3 := blk_frozen BK241.out 3; have hfz9_4 := blk_frozen BK241.out 4; have hfz9_5 := blk_frozen BK241.out 5))
   go_loopg [7, 8] k (fun kq v7 v8 w' => ∃ (x7_1 : List (List Int)) (x8_1 : Int), v8 = .int .i64 x8_1 ∧ Aside0 (slabvaultref12_Tuples.l0 kq x7_1 x8_1 a1_0 l1_1 l1_2 l1_3 l1_4 l1_5 = some (r1, r2)) ∧ Aside0 (kq ≤ k) ∧ Aside0 (Kd.N (Kd.slice 3 (Kd.int .i64)) 22 w' w.heap.size (fun k_ => (w.heap.size ≤ k_) ∧ k_ ≠ gb241) v7 x7_1) ∧ Aside0 (w'.heap[gb241]? = some (.cells #[.int .i64 a1_0, (.slice A1_1 l1_1.length c1_1), (.slice A1_2 l1_2.length c1_2), (.slice A1_3 l1_3.length c1_3), (.slice A1_4 l1_4.length c1_4), (.slice A1_5 l1_5.length c1_5)] 33 (0, 0))) ∧ Aside0 (Below w.heap.size w w'))
   case atStart => exact ⟨(([] : List (List Int))), (0), (by rfl), H', ⟨Nat.le_refl _⟩, ⟨by exact Kd.N_nil _ _ _ _ _⟩, ⟨by (with_reducible repeat (first | refine blk_drewN ?_ _ | refine blk_drew ?_ | refine blk_alloc ?_ _)); exact BK241.out⟩, ⟨HB.out⟩⟩
   case round =>
    clear H' c4b0 c4b1 c5b0 c5b1 hcz7_0 hcz7_1 hcz7_2 hcz7_3 hcz7_4 hcz7_5 hcz9_0 hcz9_1 hcz9_2 hcz9_3 hcz9_4 hcz9_5 hfz7_0 hfz7_1 hfz7_2 hfz7_3 hfz7_4 hfz7_5 hfz9_0 hfz9_1 hfz9_2 hfz9_3 hfz9_4 hfz9_5
    obtain ⟨x7_1, x8_1, rfl, HA, HK1, HO_7, BK241, HB⟩ := hrel
    cases gk with
    | zero => exact absurd HA.out (by simp [slabvaultref12_Tuples.l0])
    | succ k1 =>
     have H := HA.out
     clear HA
     simp only [slabvaultref12_Tuples.l0] at H
     by_cases c10 : x8_1 < (l1_1.length : Int)
     ·rw [if_pos c10] at H
      have c10b0 : decide (x8_1 < (l1_1.length : Int)) = true := decide_eq_true c10
      clear c10
      obtain ⟨y243, hy243⟩ : ∃ y_ : List Int, y_ = (([] : List Int)) := ⟨_, rfl⟩
      replace H : (if 0 ≤ x8_1 then (if y243.length + (rd_L1 l1_1 x8_1).length < 17592186044416 then ((some (([(y243 ++ (rd_L1 l1_1 x8_1))] : List (List Int)) : List (List Int))).bind fun y250 => (if x7_1.length + y250.length < 5864062014805 then (slabvaultref12_Tuples.l0 k1 (x7_1 ++ y250) (wrap64 (x8_1 + 1)) a1_0 l1_1 l1_2 l1_3 l1_4 l1_5) else (none))) else (none)) else (none)) = some (r1, r2) := by (have H2_ := (Option.bind_some _ _).symm.trans H; rw [hy243]; with_reducible exact H2_)
      have Ny243 := Aside0.mk hy243
      clear hy243
      by_cases c11 : 0 ≤ x8_1
      case neg => rw [if_neg c11] at H; exact absurd H (by simp)
      rw [if_pos c11] at H
      have c11b0 : decide (0 ≤ x8_1) = true := decide_eq_true c11
      clear c11
      by_cases c12 : y243.length + (rd_L1 l1_1 x8_1).length < 17592186044416
      case neg => rw [if_neg c12] at H; exact absurd H (by simp)
      rw [if_pos c12] at H
      have LMc12 := Aside0.mk c12
      clear c12
      obtain ⟨y247, hy247⟩ : ∃ y_ : List Int, y_ = (y243 ++ (rd_L1 l1_1 x8_1)) := ⟨_, rfl⟩
      replace H : ((some (([y247] : List (List Int)) : List (List Int))).bind fun y250 => (if x7_1.length + y250.length < 5864062014805 then (slabvaultref12_Tuples.l0 k1 (x7_1 ++ y250) (wrap64 (x8_1 + 1)) a1_0 l1_1 l1_2 l1_3 l1_4 l1_5) else (none))) = some (r1, r2) := by (rw [hy247]; with_reducible exact H)
      have Ny247 := Aside0.mk hy247
      clear hy247
      obtain ⟨y250, hy250⟩ : ∃ y_ : List (List Int), y_ = (([y247] : List (List Int))) := ⟨_, rfl⟩
      replace H : (if x7_1.length + y250.length < 5864062014805 then (slabvaultref12_Tuples.l0 k1 (x7_1 ++ y250) (wrap64 (x8_1 + 1)) a1_0 l1_1 l1_2 l1_3 l1_4 l1_5) else (none)) = some (r1, r2) := by (have H2_ := (Option.bind_some _ _).symm.trans H; rw [hy250]; with_reducible exact H2_)
      have Ny250 := Aside0.mk hy250
      clear hy250
      by_cases c13 : x7_1.length + y250.length < 5864062014805
      case neg => rw [if_neg c13] at H; exact absurd H (by simp)
      rw [if_pos c13] at H
      have LMc13 := Aside0.mk c13
      clear c13
      obtain ⟨y253, hy253⟩ : ∃ y_ : List (List Int), y_ = (x7_1 ++ y250) := ⟨_, rfl⟩
      replace H : (slabvaultref12_Tuples.l0 k1 y253 (wrap64 (x8_1 + 1)) a1_0 l1_1 l1_2 l1_3 l1_4 l1_5) = some (r1, r2) := by (rw [hy253]; with_reducible exact H)
      have Ny253 := Aside0.mk hy253
      clear hy253
      have H' := Aside0.mk H
      clear H
      have hcz14_0 : wr.cell? ⟨gb241, 0, none⟩ = some (.int .i64 a1_0) := (blk_cell BK241.out 0).trans rfl
      have hcz14_1 : wr.cell? ⟨gb241, 1, none⟩ = some (.slice A1_1 l1_1.length c1_1) := (blk_cell BK241.out 1).trans rfl
      have hcz14_2 : wr.cell? ⟨gb241, 2, none⟩ = some (.slice A1_2 l1_2.length c1_2) := (blk_cell BK241.out 2).trans rfl
      have hcz14_3 : wr.cell? ⟨gb241, 3, none⟩ = some (.slice A1_3 l1_3.length c1_3) := (blk_cell BK241.out 3).trans rfl
      have hcz14_4 : wr.cell? ⟨gb241, 4, none⟩ = some (.slice A1_4 l1_4.length c1_4) := (blk_cell BK241.out 4).trans rfl
      have hcz14_5 : wr.cell? ⟨gb241, 5, none⟩ = some (.slice A1_5 l1_5.length c1_5) := (blk_cell BK241.out 5).trans rfl
      have hfz14_0 := blk_frozen BK241.out 0
      have hfz14_1 := blk_frozen BK241.out 1
      have hfz14_2 := blk_frozen BK241.out 2
      have hfz14_3 := blk_frozen BK241.out 3
      have hfz14_4 := blk_frozen BK241.out 4
      have hfz14_5 := blk_frozen BK241.out 5
      go_wp2_with (first | ((with_reducible refine gate_dst (N := 34) rfl ?_); refine Kd.R_lit (Kd.int .i64) _ 3 ?hg (N := 34) ?hd (xs := ([] : List Int)) (inner := []) (ok := fun _ => True) (okp := fun _ => True) ?hr ?hp (fun _ hk => hk) trivial (Below.refl _ _) (Nat.le_refl _) (by simp) ?_; (case hd => rfl); (case hg => rfl); (case hr => (go_simp; done)); (case hp => exact (Reps.none _ _)); intro v244 w15 ho16 hb hg_ hnew_; clear hg_ hnew_; (rw [← Ny243.out] at ho16); have n0_ := Aside0.mk (Kd.N_elder' (by exact HO_7.out) (Kd.R_base ho16) hb); have n1_ := Aside0.mk (Kd.R_lower (Kd.R_newM (M := fun k_ => (w.heap.size ≤ k_)) ho16 (below_size (HB.out)) (fun k_ h_ => h_)) (below_size (HB.out))); have n2_ := Aside0.mk (blk_below (g := gb241) (o := .cells #[.int .i64 a1_0, .slice A1_1 l1_1.length c1_1, .slice A1_2 l1_2.length c1_2, .slice A1_3 l1_3.length c1_3, .slice A1_4 l1_4.length c1_4, .slice A1_5 l1_5.length c1_5] 33 (0, 0)) (by exact BK241.out) hb); have n3_ := Aside0.mk (below_step (HB.out) hb); clear HO_7; clear BK241; clear HB; have HO_7 := n0_; have HO245 := n1_; have BK241 := n2_; have HB := n3_; clear n0_ n1_ n2_ n3_; clear hb ho16; have hcz17_0 : w15.cell? ⟨gb241, 0, none⟩ = some (.int .i64 a1_0) := (blk_cell BK241.out 0).trans rfl; have hcz17_1 : w15.cell? ⟨gb241, 1, none⟩ = some (.slice A1_1 l1_1.length c1_1) := (blk_cell BK241.out 1).trans rfl; have hcz17_2 : w15.cell? ⟨gb241, 2, none⟩ = some (.slice A1_2 l1_2.length c1_2) := (blk_cell BK241.out 2).trans rfl; have hcz17_3 : w15.cell? ⟨gb241, 3, none⟩ = some (.slice A1_3 l1_3.length c1_3) := (blk_cell BK241.out 3).trans rfl; have hcz17_4 : w15.cell? ⟨gb241, 4, none⟩ = some (.slice A1_4 l1_4.length c1_4) := (blk_cell BK241.out 4).trans rfl; have hcz17_5 : w15.cell? ⟨gb241, 5, none⟩ = some (.slice A1_5 l1_5.length c1_5) := (blk_cell BK241.out 5).trans rfl; have hfz17_0 := blk_frozen BK241.out 0; have hfz17_1 := blk_frozen BK241.out 1; have hfz17_2 := blk_frozen BK241.out 2; have hfz17_3 := blk_frozen BK241.out 3; have hfz17_4 := blk_frozen BK241.out 4; have hfz17_5 := blk_frozen BK241.out 5; have p246 : 0 ≤ (x8_1 : Int) := of_decide_eq_true (by (with_reducible assumption)); have q246 : x8_1 < (l1_1.length : Int) := of_decide_eq_true (by (with_reducible assumption)); obtain ⟨ad246, A246_0, c246_0, e246, hx246_0, hl246_0, hi246_0⟩ := at_L1 HR1_1.out x8_1 p246 q246; cases e246; replace hx246_0 := (HB.out.cell (World.block_lt_of_cell? w _ hx246_0)).trans hx246_0; have HR246_0 := Aside0.mk hi246_0; have HC246_0 := Aside0.mk hl246_0; clear hi246_0 hl246_0; replace p246 := eq_true p246; replace q246 := eq_true q246) | ((with_reducible refine gate_builtin (b := .append) (xs := #[.tmp 34, .tmp 39]) rfl ?_); at_builtin; refine Kd.R_append_rows (Kd.int .i64) (w0 := w) w.heap.size rfl (.tmp 34) (.tmp 39) 22 3 (.int .i64 0) 8 rfl Try.underlying22 info3 rfl (by decide) (by omega) v244 y243 (rd_L1 l1_1 x8_1) _ _ _ (fun k_ => (w.heap.size ≤ k_)) (fun _ => False) rfl rfl ?aO ?aR (fun _ _ h => h) (fun _ h => h.elim) ?aF ?aB ?aS ?aL ?_; (case aR => repeat (exact (Kd.C_below HR246_0.out HB.out))); (case aB => exact (HB.out)); (case aF => exact (fun k_ hk => (Nat.le_trans (below_size (HB.out)) hk))); (case aO => exact (by exact Kd.R_mono HO245.out (fun _ hk => hk.1))); (case aS => exact (below_size (HB.out))); (case aL => have := LMc12.out; omega); intro v248 w18 ho hb hg hat; rw [← Ny247.out] at ho; have n0_ := Aside0.mk (Kd.N_afterv (ok := (fun k_ => (w.heap.size ≤ k_) ∧ k_ ≠ gb241)) (by exact HO_7.out) hg hat); have n1_ := Aside0.mk (blk_grown (g := gb241) (o := .cells #[.int .i64 a1_0, .slice (some ad246) l1_1.length c1_1, .slice A1_2 l1_2.length c1_2, .slice A1_3 l1_3.length c1_3, .slice A1_4 l1_4.length c1_4, .slice A1_5 l1_5.length c1_5] 33 (0, 0)) (by exact BK241.out) hg (Kd.R_ne HO245.out BK241.out (by decide))); have n2_ := Aside0.mk (hb); have n3_ := Aside0.mk (ho); clear HO_7; clear BK241; clear HB; clear HO245; have HO_7 := n0_; have BK241 := n1_; have HB := n2_; have HO249 := n3_; clear n0_ n1_ n2_ n3_; clear ho hb hg hat; obtain ⟨Ao19, co19, eo19⟩ := Kd.R_slice HO249.out; subst eo19) | ((with_reducible refine gate_dst (N := 41) rfl ?_); refine Kd.N_lit (Kd.slice 3 (Kd.int .i64)) _ 22 ?hg (N' := 41) ?hd (xs := ([y247] : List (List Int))) (inner := [.slice Ao19 y247.length co19]) (ok := (fun k_ => (w.heap.size ≤ k_) ∧ some k_ ≠ (u7 : Value).ownBlock ∧ k_ ≠ gb241)) (okp := (fun k_ => (w.heap.size ≤ k_) ∧ some k_ ≠ (u7 : Value).ownBlock ∧ k_ ≠ gb241)) ?hr ?hp (fun _ hk => hk) ((show ∀ k_, w18.heap.size ≤ k_ → (fun k_ => (w.heap.size ≤ k_) ∧ some k_ ≠ (u7 : Value).ownBlock ∧ k_ ≠ gb241) k_ from fun k_ hk => ⟨(Nat.le_trans (below_size (HB.out)) hk), Kd.fresh' (Kd.N_lt (by exact HO_7.out)) k_ hk, Kd.freshB (g := gb241) (o := .cells #[.int .i64 a1_0, .slice (some ad246) l1_1.length c1_1, .slice A1_2 l1_2.length c1_2, .slice A1_3 l1_3.length c1_3, .slice A1_4 l1_4.length c1_4, .slice A1_5 l1_5.length c1_5] 33 (0, 0)) (by exact BK241.out) k_ hk⟩) _ (Nat.le_refl _)) (Below.refl _ _) (Nat.le_refl _) (by simp) ?_; (case hd => rfl); (case hg => rfl); (case hr => (go_simp; done)); (case hp => exact (Reps.one (show Kd.FK (Kd.slice 3 (Kd.int .i64)) _ _ y247 [.slice Ao19 y247.length co19] from (Kd.FK_slice_mk (Kd.R_reads' (Kd.R_mono (ok' := (fun k_ => (w.heap.size ≤ k_) ∧ some k_ ≠ (u7 : Value).ownBlock ∧ k_ ≠ gb241)) (Kd.R_types (Kd.R_apart' (HO249.out) (Kd.N_typed HO_7.out) (by decide)) BK241.out (by decide)) (fun k_ hk => ⟨hk.1.1, ⟨hk.1.2, hk.2⟩⟩))).2.1 (Kd.R_F (Kd.R_mono (ok' := (fun k_ => (w.heap.size ≤ k_) ∧ some k_ ≠ (u7 : Value).ownBlock ∧ k_ ≠ gb241)) (Kd.R_types (Kd.R_apart' (HO249.out) (Kd.N_typed HO_7.out) (by decide)) BK241.out (by decide)) (fun k_ hk => ⟨hk.1.1, ⟨hk.1.2, hk.2⟩⟩))))) (Reps.none _ _))); intro v251 w20 ho21 hb hg_ hnew_; clear hg_ hnew_; (rw [← Ny250.out] at ho21); have n0_ := Aside0.mk (Kd.N_elder' (by exact HO_7.out) (Kd.N_base ho21) hb); have n1_ := Aside0.mk (Kd.N_lower ho21 (below_size (HB.out))); have n2_ := Aside0.mk (blk_below (g := gb241) (o := .cells #[.int .i64 a1_0, .slice (some ad246) l1_1.length c1_1, .slice A1_2 l1_2.length c1_2, .slice A1_3 l1_3.length c1_3, .slice A1_4 l1_4.length c1_4, .slice A1_5 l1_5.length c1_5] 33 (0, 0)) (by exact BK241.out) hb); have n3_ := Aside0.mk (below_step (HB.out) hb); clear HO_7; clear BK241; clear HB; clear HO249; have HO_7 := n0_; have HO252 := n1_; have BK241 := n2_; have HB := n3_; clear n0_ n1_ n2_ n3_; clear hb ho21; obtain ⟨Ao23, co23, eo23⟩ := Kd.N_slice HO252.out; subst eo23) | ((with_reducible refine gate_builtin (b := .append) (xs := #[.tmp 33, .tmp 41]) rfl ?_); at_builtin; refine Kd.N_append_rows (Kd.slice 3 (Kd.int .i64)) (w0 := w) w.heap.size rfl (.tmp 33) (.tmp 41) 31 22 (.slice none 0 0) 24 rfl Try.underlying31 info22 rfl (by decide) (by omega) u7 x7_1 y250 _ _ _ (fun k_ => (w.heap.size ≤ k_) ∧ k_ ≠ gb241) (fun k_ => ((fun k_ => (w.heap.size ≤ k_) ∧ k_ ≠ gb241)) k_ ∧ some k_ ≠ (u7 : Value).ownBlock) rfl rfl ?aO ?aR (fun _ hk => hk) ?aF ?aB ?aS ?aL ?_; (case aR => exact (by skip; exact Kd.N_F (Kd.N_mono (ok' := (fun k_ => ((fun k_ => (w.heap.size ≤ k_) ∧ k_ ≠ gb241)) k_ ∧ some k_ ≠ (u7 : Value).ownBlock)) (HO252.out) (fun k_ hk => ⟨⟨hk.1, hk.2.2⟩, hk.2.1⟩)))); (case aB => exact (HB.out)); (case aF => exact (fun k_ hk => ⟨(Nat.le_trans (below_size (HB.out)) hk), Kd.freshB (g := gb241) (o := .cells #[.int .i64 a1_0, .slice (some ad246) l1_1.length c1_1, .slice A1_2 l1_2.length c1_2, .slice A1_3 l1_3.length c1_3, .slice A1_4 l1_4.length c1_4, .slice A1_5 l1_5.length c1_5] 33 (0, 0)) (by exact BK241.out) k_ hk⟩)); (case aO => exact (by exact Kd.N_mono HO_7.out (fun _ hk => ⟨hk.1.1.1, hk.1.1.2⟩))); (case aS => exact (below_size (HB.out))); (case aL => have := LMc13.out; omega); intro v254 w22 ho hb hg hat; rw [← Ny253.out] at ho; have n0_ := Aside0.mk (blk_grown (g := gb241) (o := .cells #[.int .i64 a1_0, .slice (some ad246) l1_1.length c1_1, .slice A1_2 l1_2.length c1_2, .slice A1_3 l1_3.length c1_3, .slice A1_4 l1_4.length c1_4, .slice A1_5 l1_5.length c1_5] 33 (0, 0)) (by exact BK241.out) hg (Kd.N_ne HO_7.out BK241.out (by decide))); have n1_ := Aside0.mk (Kd.N_afterv (ok := (fun k_ => (w.heap.size ≤ k_) ∧ k_ ≠ gb241)) (by exact Kd.N_mono HO252.out (fun _ hk => ⟨⟨hk.1, hk.2.2⟩, hk.2.1⟩)) hg hat); have n2_ := Aside0.mk (hb); have n3_ := Aside0.mk (ho); clear BK241; clear HO252; clear HB; clear HO_7; have BK241 := n0_; have HO252 := n1_; have HB := n2_; have HO255 := n3_; clear n0_ n1_ n2_ n3_; clear ho hb hg hat))
      go_roundg k1
      case measure => have := HK1.out; omega
      case rel => exact ⟨(y253), (wrap64 (x8_1 + 1)), (by rfl), H', ⟨by have := HK1.out; omega⟩, ⟨by (with_reducible repeat (first | apply Kd.N_alloc | apply Kd.N_drewN | apply Kd.N_drew)); exact HO255.out⟩, ⟨by (with_reducible repeat (first | refine blk_drewN ?_ _ | refine blk_drew ?_ | refine blk_alloc ?_ _)); exact BK241.out⟩, ⟨HB.out⟩⟩
     rw [if_neg c10] at H
     have c10b0 : decide (x8_1 < (l1_1.length : Int)) = false := decide_eq_false c10
     clear c10
     simp only [Option.some.injEq, Prod.mk.injEq] at H
     obtain ⟨rfl, rfl⟩ := H
     have hcz24_0 : wr.cell? ⟨gb241, 0, none⟩ = some (.int .i64 a1_0) := (blk_cell BK241.out 0).trans rfl
     have hcz24_1 : wr.cell? ⟨gb241, 1, none⟩ = some (.slice A1_1 l1_1.length c1_1) := (blk_cell BK241.out 1).trans rfl
     have hcz24_2 : wr.cell? ⟨gb241, 2, none⟩ = some (.slice A1_2 l1_2.length c1_2) := (blk_cell BK241.out 2).trans rfl
     have hcz24_3 : wr.cell? ⟨gb241, 3, none⟩ = some (.slice A1_3 l1_3.length c1_3) := (blk_cell BK241.out 3).trans rfl
     have hcz24_4 : wr.cell? ⟨gb241, 4, none⟩ = some (.slice A1_4 l1_4.length c1_4) := (blk_cell BK241.out 4).trans rfl
     have hcz24_5 : wr.cell? ⟨gb241, 5, none⟩ = some (.slice A1_5 l1_5.length c1_5) := (blk_cell BK241.out 5).trans rfl
     have hfz24_0 := blk_frozen BK241.out 0
     have hfz24_1 := blk_frozen BK241.out 1
     have hfz24_2 := blk_frozen BK241.out 2
     have hfz24_3 := blk_frozen BK241.out 3
     have hfz24_4 := blk_frozen BK241.out 4
     have hfz24_5 := blk_frozen BK241.out 5
     go_wp2
     go_ret2
     exact ⟨_, by rfl, by (with_reducible repeat (first | apply Kd.N_alloc | apply Kd.N_drewN | apply Kd.N_drew)); exact Kd.N_mono HO_7.out (fun _ hk => hk.1), HB.out⟩
  rw [if_neg c5] at H
  have c5b0 : (a1_0 == 2) = false := beq_eq_false_iff_ne.mpr c5
  have c5b1 : (a1_0 != 2) = true := bne_iff_ne.mpr c5
  replace H := Option.bind_eq_some_iff.mp H
  obtain ⟨t256, A250, H⟩ := H
  replace H : (if t256 = 0 then (some (([] : List (List Int)), 0)) else (slabvaultref12_Tuples.l1 k l0 (([(([] : List Int))] : List (List Int))) 0 a1_0 l1_1 l1_2 l1_3 l1_4 l1_5)) = some (r1, r2) := H
  have A25 := Aside0.mk A250
  clear A250
  by_cases c26 : t256 = 0
  ·rw [if_pos c26] at H
   have c26b0 : (t256 == 0) = true := beq_iff_eq.mpr c26
   have c26b1 : (t256 != 0) = false := bne_eq_false_iff_eq.mpr c26
   clear c26
   simp only [Option.some.injEq, Prod.mk.injEq] at H
   obtain ⟨rfl, rfl⟩ := H
   go_enter Try.func23, Try.ntmps23
   go_wp2_with (first | ((with_reducible refine gate_dst (N := 3) rfl ?_); refine box_event ?hg (N := 3) ?hd (cs := #[.int .i64 a1_0, .slice A1_1 l1_1.length c1_1, .slice A1_2 l1_2.length c1_2, .slice A1_3 l1_3.length c1_3, .slice A1_4 l1_4.length c1_4, .slice A1_5 l1_5.length c1_5]) (t := 33) ?hr ?_; (case hd => rfl); (case hg => rfl); (case hr => (go_simp; done)); intro gb241 hg w27 hbox hb; have n0_ := Aside0.mk (below_step (HB.out) hb); have n1_ := Aside0.mk (hbox); have n2_ := Aside0.mk ((by rw [hg]; exact (below_size (HB.out)) : w.heap.size ≤ gb241)); have n3_ := Aside0.mk ((by rw [hg]; exact (below_size (HB.out)) : w.heap.size ≤ gb241)); clear HB; have HB := n0_; have BK241 := n1_; have GW241 := n2_; have GE241 := n3_; clear n0_ n1_ n2_ n3_; clear hb hbox hg; have hcz28_0 : w27.cell? ⟨gb241, 0, none⟩ = some (.int .i64 a1_0) := (blk_cell BK241.out 0).trans rfl; have hcz28_1 : w27.cell? ⟨gb241, 1, none⟩ = some (.slice A1_1 l1_1.length c1_1) := (blk_cell BK241.out 1).trans rfl; have hcz28_2 : w27.cell? ⟨gb241, 2, none⟩ = some (.slice A1_2 l1_2.length c1_2) := (blk_cell BK241.out 2).trans rfl; have hcz28_3 : w27.cell? ⟨gb241, 3, none⟩ = some (.slice A1_3 l1_3.length c1_3) := (blk_cell BK241.out 3).trans rfl; have hcz28_4 : w27.cell? ⟨gb241, 4, none⟩ = some (.slice A1_4 l1_4.length c1_4) := (blk_cell BK241.out 4).trans rfl; have hcz28_5 : w27.cell? ⟨gb241, 5, none⟩ = some (.slice A1_5 l1_5.length c1_5) := (blk_cell BK241.out 5).trans rfl; have hfz28_0 := blk_frozen BK241.out 0; have hfz28_1 := blk_frozen BK241.out 1; have hfz28_2 := blk_frozen BK241.out 2; have hfz28_3 := blk_frozen BK241.out 3; have hfz28_4 := blk_frozen BK241.out 4; have hfz28_5 := blk_frozen BK241.out 5) | ((with_reducible refine gate_callee (f := 20) rfl ?_); refine goesL_ (some 19) rfl rfl Try.func20 (by kernel_rfl) rfl #[.slice A0 l0.length c0, .agg #[.int .i64 a1_0, .slice A1_1 l1_1.length c1_1, .slice A1_2 l1_2.length c1_2, .slice A1_3 l1_3.length c1_3, .slice A1_4 l1_4.length c1_4, .slice A1_5 l1_5.length c1_5]] rfl (by (simp only [List.map_toArray, List.map_cons, List.map_nil]); rfl) ?_; (with_reducible refine (slabvaultref12_Check.calls k _ _ l0 a1_0 _ _ l1_1 _ _ l1_2 _ _ l1_3 _ _ l1_4 _ _ l1_5 t242 _ ?side1 ?side2 ?side3 ?side4 ?side5 ?side6 ?side7 ?side8 ?side9 ?side10 ?side11 ?side12 A3.out).mono ?_); (case side1 => repeat (exact (Kd.C_below HR0.out HB.out))); (case side2 => exact HC0.out); (case side3 => repeat (exact (Kd.C_below HR1_1.out HB.out))); (case side4 => exact HC1_1.out); (case side5 => repeat (exact (Kd.C_below HR1_2.out HB.out))); (case side6 => exact HC1_2.out); (case side7 => repeat (exact (Kd.C_below HR1_3.out HB.out))); (case side8 => exact HC1_3.out); (case side9 => repeat (exact (Kd.C_below HR1_4.out HB.out))); (case side10 => exact HC1_4.out); (case side11 => repeat (exact (Kd.C_below HR1_5.out HB.out))); (case side12 => exact HC1_5.out); rintro e w29 ⟨rfl, hb⟩; refine ⟨_, rfl, ?_⟩; have n0_ := Aside0.mk (blk_below (g := gb241) (o := .cells #[.int .i64 a1_0, .slice A1_1 l1_1.length c1_1, .slice A1_2 l1_2.length c1_2, .slice A1_3 l1_3.length c1_3, .slice A1_4 l1_4.length c1_4, .slice A1_5 l1_5.length c1_5] 33 (0, 0)) (by exact BK241.out) hb); have n1_ := Aside0.mk (below_step (HB.out) hb); clear BK241; clear HB; have BK241 := n0_; have HB := n1_; clear n0_ n1_; (clear hb); (skip); (skip); (skip); have hcz30_0 : w29.cell? ⟨gb241, 0, none⟩ = some (.int .i64 a1_0) := (blk_cell BK241.out 0).trans rfl; have hcz30_1 : w29.cell? ⟨gb241, 1, none⟩ = some (.slice A1_1 l1_1.length c1_1) := (blk_cell BK241.out 1).trans rfl; have hcz30_2 : w29.cell? ⟨gb241, 2, none⟩ = some (.slice A1_2 l1_2.length c1_2) := (blk_cell BK241.out 2).trans rfl; have hcz30_3 : w29.cell? ⟨gb241, 3, none⟩ = some (.slice A1_3 l1_3.length c1_3) := (blk_cell BK241.out 3).trans rfl; have hcz30_4 : w29.cell? ⟨gb241, 4, none⟩ = some (.slice A1_4 l1_4.length c1_4) := (blk_cell BK241.out 4).trans rfl; have hcz30_5 : w29.cell? ⟨gb241, 5, none⟩ = some (.slice A1_5 l1_5.length c1_5) := (blk_cell BK241.out 5).trans rfl; have hfz30_0 := blk_frozen BK241.out 0; have hfz30_1 := blk_frozen BK241.out 1; have hfz30_2 := blk_frozen BK241.out 2; have hfz30_3 := blk_frozen BK241.out 3; have hfz30_4 := blk_frozen BK241.out 4; have hfz30_5 := blk_frozen BK241.out 5) | ((with_reducible refine gate_callee (f := 34) rfl ?_); refine goesL_ (some 46) rfl rfl Try.func34 (by kernel_rfl) rfl #[.slice A0 l0.length c0, .agg #[.int .i64 a1_0, .slice A1_1 l1_1.length c1_1, .slice A1_2 l1_2.length c1_2, .slice A1_3 l1_3.length c1_3, .slice A1_4 l1_4.length c1_4, .slice A1_5 l1_5.length c1_5]] rfl (by (simp only [List.map_toArray, List.map_cons, List.map_nil]); rfl) ?_; (with_reducible refine (slabvaultref12_selected.calls k _ _ l0 a1_0 _ _ l1_1 _ _ l1_2 _ _ l1_3 _ _ l1_4 _ _ l1_5 t256 _ ?side1 ?side2 ?side3 ?side4 ?side5 ?side6 ?side7 ?side8 ?side9 ?side10 ?side11 ?side12 A25.out).mono ?_); (case side1 => repeat (exact (Kd.C_below HR0.out HB.out))); (case side2 => exact HC0.out); (case side3 => repeat (exact (Kd.C_below HR1_1.out HB.out))); (case side4 => exact HC1_1.out); (case side5 => repeat (exact (Kd.C_below HR1_2.out HB.out))); (case side6 => exact HC1_2.out); (case side7 => repeat (exact (Kd.C_below HR1_3.out HB.out))); (case side8 => exact HC1_3.out); (case side9 => repeat (exact (Kd.C_below HR1_4.out HB.out))); (case side10 => exact HC1_4.out); (case side11 => repeat (exact (Kd.C_below HR1_5.out HB.out))); (case side12 => exact HC1_5.out); rintro e w31 ⟨rfl, hb⟩; refine ⟨_, rfl, ?_⟩; have n0_ := Aside0.mk (blk_below (g := gb241) (o := .cells #[.int .i64 a1_0, .slice A1_1 l1_1.length c1_1, .slice A1_2 l1_2.length c1_2, .slice A1_3 l1_3.length c1_3, .slice A1_4 l1_4.length c1_4, .slice A1_5 l1_5.length c1_5] 33 (0, 0)) (by exact BK241.out) hb); have n1_ := Aside0.mk (below_step (HB.out) hb); clear BK241; clear HB; have BK241 := n0_; have HB := n1_; clear n0_ n1_; (clear hb); (skip); (skip); (skip)))
   go_ret2
   exact ⟨_, by rfl, by exact Kd.N_nil _ _ _ _ _, HB.out⟩
  rw [if_neg c26] at H
  have c26b0 : (t256 == 0) = false := beq_eq_false_iff_ne.mpr c26
  have c26b1 : (t256 != 0) = true := bne_iff_ne.mpr c26
  obtain ⟨y257, hy257⟩ : ∃ y_ : List Int, y_ = (([] : List Int)) := ⟨_, rfl⟩
  replace H : (slabvaultref12_Tuples.l1 k l0 (([y257] : List (List Int))) 0 a1_0 l1_1 l1_2 l1_3 l1_4 l1_5) = some (r1, r2) := by (rw [hy257]; with_reducible exact H)
  have Ny257 := Aside0.mk hy257
  clear hy257
  obtain ⟨y260, hy260⟩ : ∃ y_ : List (List Int), y_ = (([y257] : List (List Int))) := ⟨_, rfl⟩
  replace H : (slabvaultref12_Tuples.l1 k l0 y260 0 a1_0 l1_1 l1_2 l1_3 l1_4 l1_5) = some (r1, r2) := by (rw [hy260]; with_reducible exact H)
  have Ny260 := Aside0.mk hy260
  clear hy260
  have H' := Aside0.mk H
  clear H
  go_enter Try.func23, Try.ntmps23
  go_wp2_with (first | ((with_reducible refine gate_dst (N := 3) rfl ?_); refine box_event ?hg (N := 3) ?hd (cs := #[.int .i64 a1_0, .slice A1_1 l1_1.length c1_1, .slice A1_2 l1_2.length c1_2, .slice A1_3 l1_3.length c1_3, .slice A1_4 l1_4.length c1_4, .slice A1_5 l1_5.length c1_5]) (t := 33) ?hr ?_; (case hd => rfl); (case hg => rfl); (case hr => (go_simp; done)); intro gb241 hg w32 hbox hb; have n0_ := Aside0.mk (below_step (HB.out) hb); have n1_ := Aside0.mk (hbox); have n2_ := Aside0.mk ((by rw [hg]; exact (below_size (HB.out)) : w.heap.size ≤ gb241)); have n3_ := Aside0.mk ((by rw [hg]; exact (below_size (HB.out)) : w.heap.size ≤ gb241)); clear HB; have HB := n0_; have BK241 := n1_; have GW241 := n2_; have GE241 := n3_; clear n0_ n1_ n2_ n3_; clear hb hbox hg; have hcz33_0 : w32.cell? ⟨gb241, 0, none⟩ = some (.int .i64 a1_0) := (blk_cell BK241.out 0).trans rfl; have hcz33_1 : w32.cell? ⟨gb241, 1, none⟩ = some (.slice A1_1 l1_1.length c1_1) := (blk_cell BK241.out 1).trans rfl; have hcz33_2 : w32.cell? ⟨gb241, 2, none⟩ = some (.slice A1_2 l1_2.length c1_2) := (blk_cell BK241.out 2).trans rfl; have hcz33_3 : w32.cell? ⟨gb241, 3, none⟩ = some (.slice A1_3 l1_3.length c1_3) := (blk_cell BK241.out 3).trans rfl; have hcz33_4 : w32.cell? ⟨gb241, 4, none⟩ = some (.slice A1_4 l1_4.length c1_4) := (blk_cell BK241.out 4).trans rfl; have hcz33_5 : w32.cell? ⟨gb241, 5, none⟩ = some (.slice A1_5 l1_5.length c1_5) := (blk_cell BK241.out 5).trans rfl; have hfz33_0 := blk_frozen BK241.out 0; have hfz33_1 := blk_frozen BK241.out 1; have hfz33_2 := blk_frozen BK241.out 2; have hfz33_3 := blk_frozen BK241.out 3; have hfz33_4 := blk_frozen BK241.out 4; have hfz33_5 := blk_frozen BK241.out 5) | ((with_reducible refine gate_callee (f := 20) rfl ?_); refine goesL_ (some 19) rfl rfl Try.func20 (by kernel_rfl) rfl #[.slice A0 l0.length c0, .agg #[.int .i64 a1_0, .slice A1_1 l1_1.length c1_1, .slice A1_2 l1_2.length c1_2, .slice A1_3 l1_3.length c1_3, .slice A1_4 l1_4.length c1_4, .slice A1_5 l1_5.length c1_5]] rfl (by (simp only [List.map_toArray, List.map_cons, List.map_nil]); rfl) ?_; (with_reducible refine (slabvaultref12_Check.calls k _ _ l0 a1_0 _ _ l1_1 _ _ l1_2 _ _ l1_3 _ _ l1_4 _ _ l1_5 t242 _ ?side1 ?side2 ?side3 ?side4 ?side5 ?side6 ?side7 ?side8 ?side9 ?side10 ?side11 ?side12 A3.out).mono ?_); (case side1 => repeat (exact (Kd.C_below HR0.out HB.out))); (case side2 => exact HC0.out); (case side3 => repeat (exact (Kd.C_below HR1_1.out HB.out))); (case side4 => exact HC1_1.out); (case side5 => repeat (exact (Kd.C_below HR1_2.out HB.out))); (case side6 => exact HC1_2.out); (case side7 => repeat (exact (Kd.C_below HR1_3.out HB.out))); (case side8 => exact HC1_3.out); (case side9 => repeat (exact (Kd.C_below HR1_4.out HB.out))); (case side10 => exact HC1_4.out); (case side11 => repeat (exact (Kd.C_below HR1_5.out HB.out))); (case side12 => exact HC1_5.out); rintro e w34 ⟨rfl, hb⟩; refine ⟨_, rfl, ?_⟩; have n0_ := Aside0.mk (blk_below (g := gb241) (o := .cells #[.int .i64 a1_0, .slice A1_1 l1_1.length c1_1, .slice A1_2 l1_2.length c1_2, .slice A1_3 l1_3.length c1_3, .slice A1_4 l1_4.length c1_4, .slice A1_5 l1_5.length c1_5] 33 (0, 0)) (by exact BK241.out) hb); have n1_ := Aside0.mk (below_step (HB.out) hb); clear BK241; clear HB; have BK241 := n0_; have HB := n1_; clear n0_ n1_; (clear hb); (skip); (skip); (skip); have hcz35_0 : w34.cell? ⟨gb241, 0, none⟩ = some (.int .i64 a1_0) := (blk_cell BK241.out 0).trans rfl; have hcz35_1 : w34.cell? ⟨gb241, 1, none⟩ = some (.slice A1_1 l1_1.length c1_1) := (blk_cell BK241.out 1).trans rfl; have hcz35_2 : w34.cell? ⟨gb241, 2, none⟩ = some (.slice A1_2 l1_2.length c1_2) := (blk_cell BK241.out 2).trans rfl; have hcz35_3 : w34.cell? ⟨gb241, 3, none⟩ = some (.slice A1_3 l1_3.length c1_3) := (blk_cell BK241.out 3).trans rfl; have hcz35_4 : w34.cell? ⟨gb241, 4, none⟩ = some (.slice A1_4 l1_4.length c1_4) := (blk_cell BK241.out 4).trans rfl; have hcz35_5 : w34.cell? ⟨gb241, 5, none⟩ = some (.slice A1_5 l1_5.length c1_5) := (blk_cell BK241.out 5).trans rfl; have hfz35_0 := blk_frozen BK241.out 0; have hfz35_1 := blk_frozen BK241.out 1; have hfz35_2 := blk_frozen BK241.out 2; have hfz35_3 := blk_frozen BK241.out 3; have hfz35_4 := blk_frozen BK241.out 4; have hfz35_5 := blk_frozen BK241.out 5) | ((with_reducible refine gate_callee (f := 34) rfl ?_); refine goesL_ (some 46) rfl rfl Try.func34 (by kernel_rfl) rfl #[.slice A0 l0.length c0, .agg #[.int .i64 a1_0, .slice A1_1 l1_1.length c1_1, .slice A1_2 l1_2.length c1_2, .slice A1_3 l1_3.length c1_3, .slice A1_4 l1_4.length c1_4, .slice A1_5 l1_5.length c1_5]] rfl (by (simp only [List.map_toArray, List.map_cons, List.map_nil]); rfl) ?_; (with_reducible refine (slabvaultref12_selected.calls k _ _ l0 a1_0 _ _ l1_1 _ _ l1_2 _ _ l1_3 _ _ l1_4 _ _ l1_5 t256 _ ?side1 ?side2 ?side3 ?side4 ?side5 ?side6 ?side7 ?side8 ?side9 ?side10 ?side11 ?side12 A25.out).mono ?_); (case side1 => repeat (exact (Kd.C_below HR0.out HB.out))); (case side2 => exact HC0.out); (case side3 => repeat (exact (Kd.C_below HR1_1.out HB.out))); (case side4 => exact HC1_1.out); (case side5 => repeat (exact (Kd.C_below HR1_2.out HB.out))); (case side6 => exact HC1_2.out); (case side7 => repeat (exact (Kd.C_below HR1_3.out HB.out))); (case side8 => exact HC1_3.out); (case side9 => repeat (exact (Kd.C_below HR1_4.out HB.out))); (case side10 => exact HC1_4.out); (case side11 => repeat (exact (Kd.C_below HR1_5.out HB.out))); (case side12 => exact HC1_5.out); rintro e w36 ⟨rfl, hb⟩; refine ⟨_, rfl, ?_⟩; have n0_ := Aside0.mk (blk_below (g := gb241) (o := .cells #[.int .i64 a1_0, .slice A1_1 l1_1.length c1_1, .slice A1_2 l1_2.length c1_2, .slice A1_3 l1_3.length c1_3, .slice A1_4 l1_4.length c1_4, .slice A1_5 l1_5.length c1_5] 33 (0, 0)) (by exact BK241.out) hb); have n1_ := Aside0.mk (below_step (HB.out) hb); clear BK241; clear HB; have BK241 := n0_; have HB := n1_; clear n0_ n1_; (clear hb); (skip); (skip); (skip)) | ((with_reducible refine gate_dst (N := 48) rfl ?_); refine Kd.R_lit (Kd.int .i64) _ 3 ?hg (N := 48) ?hd (xs := ([] : List Int)) (inner := []) (ok := fun _ => True) (okp := fun _ => True) ?hr ?hp (fun _ hk => hk) trivial (Below.refl _ _) (Nat.le_refl _) (by simp) ?_; (case hd => rfl); (case hg => rfl); (case hr => (go_simp; done)); (case hp => exact (Reps.none _ _)); intro v258 w37 ho38 hb hg_ hnew_; clear hg_ hnew_; (rw [← Ny257.out] at ho38); have n0_ := Aside0.mk (Kd.R_lower (Kd.R_newM (M := fun k_ => (w.heap.size ≤ k_)) ho38 (below_size (HB.out)) (fun k_ h_ => h_)) (below_size (HB.out))); have n1_ := Aside0.mk (blk_below (g := gb241) (o := .cells #[.int .i64 a1_0, .slice A1_1 l1_1.length c1_1, .slice A1_2 l1_2.length c1_2, .slice A1_3 l1_3.length c1_3, .slice A1_4 l1_4.length c1_4, .slice A1_5 l1_5.length c1_5] 33 (0, 0)) (by exact BK241.out) hb); have n2_ := Aside0.mk (below_step (HB.out) hb); clear BK241; clear HB; have HO259 := n0_; have BK241 := n1_; have HB := n2_; clear n0_ n1_ n2_; clear hb ho38; obtain ⟨Ao39, co39, eo39⟩ := Kd.R_slice HO259.out; subst eo39) | ((with_reducible refine gate_dst (N := 49) rfl ?_); refine Kd.N_lit (Kd.slice 3 (Kd.int .i64)) _ 22 ?hg (N' := 49) ?hd (xs := ([y257] : List (List Int))) (inner := [.slice Ao39 y257.length co39]) (ok := (fun k_ => (w.heap.size ≤ k_) ∧ k_ ≠ gb241)) (okp := (fun k_ => (w.heap.size ≤ k_) ∧ k_ ≠ gb241)) ?hr ?hp (fun _ hk => hk) ((show ∀ k_, w37.heap.size ≤ k_ → (fun k_ => (w.heap.size ≤ k_) ∧ k_ ≠ gb241) k_ from fun k_ hk => ⟨(Nat.le_trans (below_size (HB.out)) hk), Kd.freshB (g := gb241) (o := .cells #[.int .i64 a1_0, .slice A1_1 l1_1.length c1_1, .slice A1_2 l1_2.length c1_2, .slice A1_3 l1_3.length c1_3, .slice A1_4 l1_4.length c1_4, .slice A1_5 l1_5.length c1_5] 33 (0, 0)) (by exact BK241.out) k_ hk⟩) _ (Nat.le_refl _)) (Below.refl _ _) (Nat.le_refl _) (by simp) ?_; (case hd => rfl); (case hg => rfl); (case hr => (go_simp; done)); (case hp => exact (Reps.one (show Kd.FK (Kd.slice 3 (Kd.int .i64)) _ _ y257 [.slice Ao39 y257.length co39] from (Kd.FK_slice_mk (Kd.R_reads' (Kd.R_mono (ok' := (fun k_ => (w.heap.size ≤ k_) ∧ k_ ≠ gb241)) (Kd.R_types (HO259.out) BK241.out (by decide)) (fun k_ hk => ⟨hk.1.1, hk.2⟩))).2.1 (Kd.R_F (Kd.R_mono (ok' := (fun k_ => (w.heap.size ≤ k_) ∧ k_ ≠ gb241)) (Kd.R_types (HO259.out) BK241.out (by decide)) (fun k_ hk => ⟨hk.1.1, hk.2⟩))))) (Reps.none _ _))); intro v261 w40 ho41 hb hg_ hnew_; clear hg_ hnew_; (rw [← Ny260.out] at ho41); have n0_ := Aside0.mk (Kd.N_lower ho41 (below_size (HB.out))); have n1_ := Aside0.mk (blk_below (g := gb241) (o := .cells #[.int .i64 a1_0, .slice A1_1 l1_1.length c1_1, .slice A1_2 l1_2.length c1_2, .slice A1_3 l1_3.length c1_3, .slice A1_4 l1_4.length c1_4, .slice A1_5 l1_5.length c1_5] 33 (0, 0)) (by exact BK241.out) hb); have n2_ := Aside0.mk (below_step (HB.out) hb); clear BK241; clear HB; clear HO259; have HO262 := n0_; have BK241 := n1_; have HB := n2_; clear n0_ n1_ n2_; clear hb ho41))
  go_loopg [7, 9] k (fun kq v7 v9 w' => ∃ (x7_1 : List (List Int)) (x9_1 : Int), v9 = .int .i64 x9_1 ∧ Aside0 (slabvaultref12_Tuples.l1 kq l0 x7_1 x9_1 a1_0 l1_1 l1_2 l1_3 l1_4 l1_5 = some (r1, r2)) ∧ Aside0 (kq ≤ k) ∧ Aside0 (Kd.N (Kd.slice 3 (Kd.int .i64)) 22 w' w.heap.size (fun k_ => (w.heap.size ≤ k_) ∧ k_ ≠ gb241) v7 x7_1) ∧ Aside0 (w'.heap[gb241]? = some (.cells #[.int .i64 a1_0, (.slice A1_1 l1_1.length c1_1), (.slice A1_2 l1_2.length c1_2), (.slice A1_3 l1_3.length c1_3), (.slice A1_4 l1_4.length c1_4), (.slice A1_5 l1_5.length c1_5)] 33 (0, 0))) ∧ Aside0 (Below w.heap.size w w'))
  case atStart => exact ⟨(y260), (0), (by rfl), H', ⟨Nat.le_refl _⟩, ⟨by (with_reducible repeat (first | apply Kd.N_alloc | apply Kd.N_drewN | apply Kd.N_drew)); exact HO262.out⟩, ⟨by (with_reducible repeat (first | refine blk_drewN ?_ _ | refine blk_drew ?_ | refine blk_alloc ?_ _)); exact BK241.out⟩, ⟨HB.out⟩⟩
  case round =>
   clear H' c4b0 c4b1 c5 c5b0 c5b1 c26 c26b0 c26b1 hcz33_0 hcz33_1 hcz33_2 hcz33_3 hcz33_4 hcz33_5 hcz35_0 hcz35_1 hcz35_2 hcz35_3 hcz35_4 hcz35_5 hfz33_0 hfz33_1 hfz33_2 hfz33_3 hfz33_4 hfz33_5 hfz35_0 hfz35_1 hfz35_2 hfz35_3 hfz35_4 hfz35_5
   obtain ⟨x7_1, x9_1, rfl, HA, HK1, HO_7, BK241, HB⟩ := hrel
   cases gk with
   | zero => exact absurd HA.out (by simp [slabvaultref12_Tuples.l1])
   | succ k1 =>
    have H := HA.out
    clear HA
    simp only [slabvaultref12_Tuples.l1] at H
    by_cases c42 : x9_1 < (l0.length : Int)
    ·rw [if_pos c42] at H
     have c42b0 : decide (x9_1 < (l0.length : Int)) = true := decide_eq_true c42
     clear c42
     have HC43 := Aside0.mk H
     clear H
     have hcz44_0 : wr.cell? ⟨gb241, 0, none⟩ = some (.int .i64 a1_0) := (blk_cell BK241.out 0).trans rfl
     have hcz44_1 : wr.cell? ⟨gb241, 1, none⟩ = some (.slice A1_1 l1_1.length c1_1) := (blk_cell BK241.out 1).trans rfl
     have hcz44_2 : wr.cell? ⟨gb241, 2, none⟩ = some (.slice A1_2 l1_2.length c1_2) := (blk_cell BK241.out 2).trans rfl
     have hcz44_3 : wr.cell? ⟨gb241, 3, none⟩ = some (.slice A1_3 l1_3.length c1_3) := (blk_cell BK241.out 3).trans rfl
     have hcz44_4 : wr.cell? ⟨gb241, 4, none⟩ = some (.slice A1_4 l1_4.length c1_4) := (blk_cell BK241.out 4).trans rfl
     have hcz44_5 : wr.cell? ⟨gb241, 5, none⟩ = some (.slice A1_5 l1_5.length c1_5) := (blk_cell BK241.out 5).trans rfl
     have hfz44_0 := blk_frozen BK241.out 0
     have hfz44_1 := blk_frozen BK241.out 1
     have hfz44_2 := blk_frozen BK241.out 2
     have hfz44_3 := blk_frozen BK241.out 3
     have hfz44_4 := blk_frozen BK241.out 4
     have hfz44_5 := blk_frozen BK241.out 5
     go_upto_if 58 with (fail)
     go_cut [10] (fun v10 wc => ∃ (kq : Nat) (x10_42 : List Int), Aside0 (slabvaultref12_Tuples.j5 kq l0 x7_1 x9_1 x10_42 a1_0 l1_1 l1_2 l1_3 l1_4 l1_5 = some (r1, r2)) ∧ Aside0 (kq ≤ k1) ∧ Aside0 (Kd.N (Kd.slice 3 (Kd.int .i64)) 22 wc w.heap.size (fun k_ => (w.heap.size ≤ k_) ∧ some k_ ≠ (v10 : Value).ownBlock ∧ k_ ≠ gb241) u7 x7_1) ∧ Aside0 (Kd.R (Kd.int .i64) 3 wc w.heap.size (fun k_ => (w.heap.size ≤ k_)) v10 x10_42) ∧ Aside0 (wc.heap[gb241]? = some (.cells #[.int .i64 a1_0, (.slice A1_1 l1_1.length c1_1), (.slice A1_2 l1_2.length c1_2), (.slice A1_3 l1_3.length c1_3), (.slice A1_4 l1_4.length c1_4), (.slice A1_5 l1_5.length c1_5)] 33 (0, 0))) ∧ Aside0 (Below w.heap.size w wc))
     case first =>
      have H := HC43.out
      clear HC43
      by_cases c45 : a1_0 = 1
      ·rw [if_pos c45] at H
       have c45b0 : (a1_0 == 1) = true := beq_iff_eq.mpr c45
       have c45b1 : (a1_0 != 1) = false := bne_eq_false_iff_eq.mpr c45
       clear c45
       (rw [c45b0])
       have H' := Aside0.mk H
       clear H
       go_wp2
       go_loopg [10, 11] k1 (fun kq v10 v11 w' => ∃ (x10_2 : List Int) (x11_2 : Int), v11 = .int .i64 x11_2 ∧ Aside0 (slabvaultref12_Tuples.l2 kq l0 x7_1 x9_1 x10_2 x11_2 a1_0 l1_1 l1_2 l1_3 l1_4 l1_5 = some (r1, r2)) ∧ Aside0 (kq ≤ k1) ∧ Aside0 (Kd.N (Kd.slice 3 (Kd.int .i64)) 22 w' w.heap.size (fun k_ => (w.heap.size ≤ k_) ∧ some k_ ≠ (v10 : Value).ownBlock ∧ k_ ≠ gb241) u7 x7_1) ∧ Aside0 (Kd.R (Kd.int .i64) 3 w' w.heap.size (fun k_ => (w.heap.size ≤ k_)) v10 x10_2) ∧ Aside0 (w'.heap[gb241]? = some (.cells #[.int .i64 a1_0, (.slice A1_1 l1_1.length c1_1), (.slice A1_2 l1_2.length c1_2), (.slice A1_3 l1_3.length c1_3), (.slice A1_4 l1_4.length c1_4), (.slice A1_5 l1_5.length c1_5)] 33 (0, 0))) ∧ Aside0 (Below w.heap.size w w'))
       case atStart => exact ⟨(([] : List Int)), (0), (by rfl), H', ⟨Nat.le_refl _⟩, ⟨by (with_reducible repeat (first | apply Kd.N_alloc | apply Kd.N_drewN | apply Kd.N_drew)); exact Kd.N_mono HO_7.out (fun _ hk => ⟨hk.1, ⟨(by simp [Value.ownBlock]), hk.2⟩⟩)⟩, ⟨by exact Kd.R_nil _ _ _ _ _⟩, ⟨by (with_reducible repeat (first | refine blk_drewN ?_ _ | refine blk_drew ?_ | refine blk_alloc ?_ _)); exact BK241.out⟩, ⟨HB.out⟩⟩
       case round =>
        clear H' c42b0 c45b0 c45b1 hcz44_0 hcz44_1 hcz44_2 hcz44_3 hcz44_4 hcz44_5 hfz44_0 hfz44_1 hfz44_2 hfz44_3 hfz44_4 hfz44_5
        obtain ⟨x10_2, x11_2, rfl, HA, HK2, HO_7, HO_10, BK241, HB⟩ := hrel
        cases gk with
        | zero => exact absurd HA.out (by simp [slabvaultref12_Tuples.l2])
        | succ k2 =>
         have H := HA.out
         clear HA
         simp only [slabvaultref12_Tuples.l2] at H
         by_cases c46 : 0 ≤ x9_1
         case neg => rw [if_neg c46] at H; exact absurd H (by simp)
         rw [if_pos c46] at H
         have c46b0 : decide (0 ≤ x9_1) = true := decide_eq_true c46
         clear c46
         by_cases c47 : x9_1 < (l0.length : Int)
         case neg => rw [if_neg c47] at H; exact absurd H (by simp)
         rw [if_pos c47] at H
         have c47b0 : decide (x9_1 < (l0.length : Int)) = true := decide_eq_true c47
         clear c47
         by_cases c48 : x11_2 < (rd l0 x9_1)
         ·rw [if_pos c48] at H
          have c48b0 : decide (x11_2 < (rd l0 x9_1)) = true := decide_eq_true c48
          clear c48
          obtain ⟨y264, hy264⟩ : ∃ y_ : List Int, y_ = (([x11_2] : List Int)) := ⟨_, rfl⟩
          replace H : (if x10_2.length + y264.length < 17592186044416 then (slabvaultref12_Tuples.l2 k2 l0 x7_1 x9_1 (x10_2 ++ y264) (wrap64 (x11_2 + 1)) a1_0 l1_1 l1_2 l1_3 l1_4 l1_5) else (none)) = some (r1, r2) := by (have H2_ := (Option.bind_some _ _).symm.trans H; rw [hy264]; with_reducible exact H2_)
          have Ny264 := Aside0.mk hy264
          clear hy264
          by_cases c49 : x10_2.length + y264.length < 17592186044416
          case neg => rw [if_neg c49] at H; exact absurd H (by simp)
          rw [if_pos c49] at H
          have LMc49 := Aside0.mk c49
          clear c49
          obtain ⟨y267, hy267⟩ : ∃ y_ : List Int, y_ = (x10_2 ++ y264) := ⟨_, rfl⟩
          replace H : (slabvaultref12_Tuples.l2 k2 l0 x7_1 x9_1 y267 (wrap64 (x11_2 + 1)) a1_0 l1_1 l1_2 l1_3 l1_4 l1_5) = some (r1, r2) := by (rw [hy267]; with_reducible exact H)
          have Ny267 := Aside0.mk hy267
          clear hy267
          have H' := Aside0.mk H
          clear H
          have p263 : 0 ≤ (x9_1 : Int) := of_decide_eq_true (by (with_reducible assumption))
          have q263 : x9_1 < (l0.length : Int) := of_decide_eq_true (by (with_reducible assumption))
          obtain ⟨ad263, e263, hx263_0⟩ := Kd.at_int HR0.out x9_1 p263 q263
          cases e263
          replace hx263_0 := (HB.out.cell (World.block_lt_of_cell? w _ hx263_0)).trans hx263_0
          replace p263 := eq_true p263
          replace q263 := eq_true q263
          go_wp2_with (first | ((with_reducible refine gate_dst (N := 69) rfl ?_); refine Kd.R_lit (Kd.int .i64) _ 3 ?hg (N := 69) ?hd (xs := ([x11_2] : List Int)) (inner := [.int .i64 x11_2]) (ok := fun _ => True) (okp := fun _ => True) ?hr ?hp (fun _ hk => hk) trivial (Below.refl _ _) (Nat.le_refl _) (by simp) ?_; (case hd => rfl); (case hg => rfl); (case hr => (go_simp; done)); (case hp => exact (Reps.one (show Kd.M (Kd.int .i64) _ _ _ x11_2 [.int .i64 x11_2] from rfl) (Reps.none _ _))); intro v265 w50 ho51 hb hg_ hnew_; clear hg_ hnew_; (rw [← Ny264.out] at ho51); have n0_ := Aside0.mk (Kd.N_elder' (by exact HO_7.out) (Kd.R_base ho51) hb); have n1_ := Aside0.mk (Kd.R_elder' (by exact HO_10.out) (Kd.R_base ho51) hb); have n2_ := Aside0.mk (Kd.R_lower (Kd.R_new' (Kd.R_newM (M := fun k_ => (w.heap.size ≤ k_)) ho51 (below_size (HB.out)) (fun k_ h_ => h_)) (Kd.R_lt (by exact HO_10.out))) (below_size (HB.out))); have n3_ := Aside0.mk (blk_below (g := gb241) (o := .cells #[.int .i64 a1_0, .slice A1_1 l1_1.length c1_1, .slice A1_2 l1_2.length c1_2, .slice A1_3 l1_3.length c1_3, .slice A1_4 l1_4.length c1_4, .slice A1_5 l1_5.length c1_5] 33 (0, 0)) (by exact BK241.out) hb); have n4_ := Aside0.mk (below_step (HB.out) hb); clear HO_7; clear HO_10; clear BK241; clear HB; have HO_7 := n0_; have HO_10 := n1_; have HO266 := n2_; have BK241 := n3_; have HB := n4_; clear n0_ n1_ n2_ n3_ n4_; clear hb ho51; obtain ⟨Ao53, co53, eo53⟩ := Kd.R_slice HO266.out; subst eo53) | ((with_reducible refine gate_builtin (b := .append) (xs := #[.tmp 67, .tmp 69]) rfl ?_); at_builtin; refine Kd.R_append_rows (Kd.int .i64) (w0 := w) w.heap.size rfl (.tmp 67) (.tmp 69) 22 3 (.int .i64 0) 8 rfl Try.underlying22 info3 rfl (by decide) (by omega) u10 x10_2 y264 _ _ _ (fun k_ => (w.heap.size ≤ k_) ∧ some k_ ≠ (.slice Ao53 y264.length co53 : Value).ownBlock) (fun _ => False) rfl rfl ?aO ?aR (fun _ _ h => h) (fun _ h => h.elim) ?aF ?aB ?aS ?aL ?_; (case aR => repeat (exact (Kd.R_reads' HO266.out).2.2)); (case aB => exact (HB.out)); (case aF => exact (fun k_ hk => ⟨(Nat.le_trans (below_size (HB.out)) hk), Kd.fresh' (Kd.R_lt (by exact HO266.out)) k_ hk⟩)); (case aO => exact (by exact HO_10.out)); (case aS => exact (below_size (HB.out))); (case aL => have := LMc49.out; omega); intro v268 w52 ho hb hg hat; rw [← Ny267.out] at ho; have n0_ := Aside0.mk (Kd.N_afterv (ok := (fun k_ => (w.heap.size ≤ k_) ∧ some k_ ≠ (.slice Ao53 y264.length co53 : Value).ownBlock ∧ k_ ≠ gb241)) (by exact Kd.N_mono HO_7.out (fun _ hk => ⟨⟨hk.1.1, ⟨hk.2, hk.1.2.2⟩⟩, hk.1.2.1⟩)) hg hat); have n1_ := Aside0.mk (blk_grown (g := gb241) (o := .cells #[.int .i64 a1_0, .slice A1_1 l1_1.length c1_1, .slice A1_2 l1_2.length c1_2, .slice A1_3 l1_3.length c1_3, .slice A1_4 l1_4.length c1_4, .slice A1_5 l1_5.length c1_5] 33 (0, 0)) (by exact BK241.out) hg (Kd.R_ne HO_10.out BK241.out (by decide))); have n2_ := Aside0.mk (Kd.R_after (ok := (fun k_ => (w.heap.size ≤ k_))) (by exact Kd.R_mono HO266.out (fun _ hk => ⟨hk.1.1, hk.2⟩)) hg hat); have n3_ := Aside0.mk (hb); have n4_ := Aside0.mk (ho); clear HO_7; clear BK241; clear HO266; clear HB; clear HO_10; have HO_7 := n0_; have BK241 := n1_; have HO266 := n2_; have HB := n3_; have HO269 := n4_; clear n0_ n1_ n2_ n3_ n4_; clear ho hb hg hat))
          go_roundg k2
          case measure => have := HK1.out; have := HK2.out; omega
          case rel => exact ⟨(y267), (wrap64 (x11_2 + 1)), (by rfl), H', ⟨by have := HK1.out; have := HK2.out; omega⟩, ⟨by (with_reducible repeat (first | apply Kd.N_alloc | apply Kd.N_drewN | apply Kd.N_drew)); exact Kd.N_mono HO_7.out (fun _ hk => ⟨hk.1.1, ⟨hk.2, hk.1.2.2⟩⟩)⟩, ⟨by (with_reducible repeat (first | apply Kd.R_alloc | apply Kd.R_drewN | apply Kd.R_drew)); exact Kd.R_mono HO269.out (fun _ hk => hk.1)⟩, ⟨by (with_reducible repeat (first | refine blk_drewN ?_ _ | refine blk_drew ?_ | refine blk_alloc ?_ _)); exact BK241.out⟩, ⟨HB.out⟩⟩
         rw [if_neg c48] at H
         have c48b0 : decide (x11_2 < (rd l0 x9_1)) = false := decide_eq_false c48
         clear c48
         have H' := Aside0.mk H
         clear H
         have p263 : 0 ≤ (x9_1 : Int) := of_decide_eq_true (by (with_reducible assumption))
         have q263 : x9_1 < (l0.length : Int) := of_decide_eq_true (by (with_reducible assumption))
         obtain ⟨ad263, e263, hx263_0⟩ := Kd.at_int HR0.out x9_1 p263 q263
         cases e263
         replace hx263_0 := (HB.out.cell (World.block_lt_of_cell? w _ hx263_0)).trans hx263_0
         replace p263 := eq_true p263
         replace q263 := eq_true q263
         go_wp2
         go_meet
         case rel => exact ⟨_, (x10_2), H', ⟨by have := HK1.out; have := HK2.out; omega⟩, ⟨by (with_reducible repeat (first | apply Kd.N_alloc | apply Kd.N_drewN | apply Kd.N_drew)); exact HO_7.out⟩, ⟨by (with_reducible repeat (first | apply Kd.R_alloc | apply Kd.R_drewN | apply Kd.R_drew)); exact HO_10.out⟩, ⟨by (with_reducible repeat (first | refine blk_drewN ?_ _ | refine blk_drew ?_ | refine blk_alloc ?_ _)); exact BK241.out⟩, ⟨HB.out⟩⟩
      rw [if_neg c45] at H
      have c45b0 : (a1_0 == 1) = false := beq_eq_false_iff_ne.mpr c45
      have c45b1 : (a1_0 != 1) = true := bne_iff_ne.mpr c45
      (rw [c45b0])
      have H' := Aside0.mk H
      clear H
      go_wp2
      go_loopg [10, 12] k1 (fun kq v10 v12 w' => ∃ (x10_2 : List Int) (x12_2 : Int), v12 = .int .i64 x12_2 ∧ Aside0 (slabvaultref12_Tuples.l3 kq l0 x7_1 x9_1 x10_2 x12_2 a1_0 l1_1 l1_2 l1_3 l1_4 l1_5 = some (r1, r2)) ∧ Aside0 (kq ≤ k1) ∧ Aside0 (Kd.N (Kd.slice 3 (Kd.int .i64)) 22 w' w.heap.size (fun k_ => (w.heap.size ≤ k_) ∧ some k_ ≠ (v10 : Value).ownBlock ∧ k_ ≠ gb241) u7 x7_1) ∧ Aside0 (Kd.R (Kd.int .i64) 3 w' w.heap.size (fun k_ => (w.heap.size ≤ k_)) v10 x10_2) ∧ Aside0 (w'.heap[gb241]? = some (.cells #[.int .i64 a1_0, (.slice A1_1 l1_1.length c1_1), (.slice A1_2 l1_2.length c1_2), (.slice A1_3 l1_3.length c1_3), (.slice A1_4 l1_4.length c1_4), (.slice A1_5 l1_5.length c1_5)] 33 (0, 0))) ∧ Aside0 (Below w.heap.size w w'))
      case atStart => exact ⟨(([] : List Int)), (0), (by rfl), H', ⟨Nat.le_refl _⟩, ⟨by (with_reducible repeat (first | apply Kd.N_alloc | apply Kd.N_drewN | apply Kd.N_drew)); exact Kd.N_mono HO_7.out (fun _ hk => ⟨hk.1, ⟨(by simp [Value.ownBlock]), hk.2⟩⟩)⟩, ⟨by exact Kd.R_nil _ _ _ _ _⟩, ⟨by (with_reducible repeat (first | refine blk_drewN ?_ _ | refine blk_drew ?_ | refine blk_alloc ?_ _)); exact BK241.out⟩, ⟨HB.out⟩⟩
      case round =>
       clear H' c42b0 c45 c45b0 c45b1 hcz44_0 hcz44_1 hcz44_2 hcz44_3 hcz44_4 hcz44_5 hfz44_0 hfz44_1 hfz44_2 hfz44_3 hfz44_4 hfz44_5
       obtain ⟨x10_2, x12_2, rfl, HA, HK2, HO_7, HO_10, BK241, HB⟩ := hrel
       cases gk with
       | zero => exact absurd HA.out (by simp [slabvaultref12_Tuples.l3])
       | succ k2 =>
        have H := HA.out
        clear HA
        simp only [slabvaultref12_Tuples.l3] at H
        by_cases c54 : 0 ≤ x9_1
        case neg => rw [if_neg c54] at H; exact absurd H (by simp)
        rw [if_pos c54] at H
        have c54b0 : decide (0 ≤ x9_1) = true := decide_eq_true c54
        clear c54
        by_cases c55 : x9_1 < (l1_4.length : Int)
        case neg => rw [if_neg c55] at H; exact absurd H (by simp)
        rw [if_pos c55] at H
        have c55b0 : decide (x9_1 < (l1_4.length : Int)) = true := decide_eq_true c55
        clear c55
        by_cases c56 : x12_2 < (rd l1_4 x9_1)
        ·rw [if_pos c56] at H
         have c56b0 : decide (x12_2 < (rd l1_4 x9_1)) = true := decide_eq_true c56
         clear c56
         have H' := Aside0.mk H
         clear H
         have hcz57_0 : wr.cell? ⟨gb241, 0, none⟩ = some (.int .i64 a1_0) := (blk_cell BK241.out 0).trans rfl
         have hcz57_1 : wr.cell? ⟨gb241, 1, none⟩ = some (.slice A1_1 l1_1.length c1_1) := (blk_cell BK241.out 1).trans rfl
         have hcz57_2 : wr.cell? ⟨gb241, 2, none⟩ = some (.slice A1_2 l1_2.length c1_2) := (blk_cell BK241.out 2).trans rfl
         have hcz57_3 : wr.cell? ⟨gb241, 3, none⟩ = some (.slice A1_3 l1_3.length c1_3) := (blk_cell BK241.out 3).trans rfl
         have hcz57_4 : wr.cell? ⟨gb241, 4, none⟩ = some (.slice A1_4 l1_4.length c1_4) := (blk_cell BK241.out 4).trans rfl
         have hcz57_5 : wr.cell? ⟨gb241, 5, none⟩ = some (.slice A1_5 l1_5.length c1_5) := (blk_cell BK241.out 5).trans rfl
         have hfz57_0 := blk_frozen BK241.out 0
         have hfz57_1 := blk_frozen BK241.out 1
         have hfz57_2 := blk_frozen BK241.out 2
         have hfz57_3 := blk_frozen BK241.out 3
         have hfz57_4 := blk_frozen BK241.out 4
         have hfz57_5 := blk_frozen BK241.out 5
         have p270 : 0 ≤ (x9_1 : Int) := of_decide_eq_true (by (with_reducible assumption))
         have q270 : x9_1 < (l1_4.length : Int) := of_decide_eq_true (by (with_reducible assumption))
         obtain ⟨ad270, e270, hx270_0⟩ := Kd.at_int HR1_4.out x9_1 p270 q270
         cases e270
         replace hx270_0 := (HB.out.cell (World.block_lt_of_cell? w _ hx270_0)).trans hx270_0
         replace p270 := eq_true p270
         replace q270 := eq_true q270
         go_wp2
         go_loopg [10, 13] k2 (fun kq v10 v13 w' => ∃ (x10_3 : List Int) (x13_3 : Int), v13 = .int .i64 x13_3 ∧ Aside0 (slabvaultref12_Tuples.l4 kq l0 x7_1 x9_1 x10_3 x12_2 x13_3 a1_0 l1_1 l1_2 l1_3 l1_4 l1_5 = some (r1, r2)) ∧ Aside0 (kq ≤ k2) ∧ Aside0 (Kd.N (Kd.slice 3 (Kd.int .i64)) 22 w' w.heap.size (fun k_ => (w.heap.size ≤ k_) ∧ some k_ ≠ (v10 : Value).ownBlock ∧ k_ ≠ gb241) u7 x7_1) ∧ Aside0 (Kd.R (Kd.int .i64) 3 w' w.heap.size (fun k_ => (w.heap.size ≤ k_)) v10 x10_3) ∧ Aside0 (w'.heap[gb241]? = some (.cells #[.int .i64 a1_0, (.slice A1_1 l1_1.length c1_1), (.slice A1_2 l1_2.length c1_2), (.slice A1_3 l1_3.length c1_3), (.slice (some ad270) l1_4.length c1_4), (.slice A1_5 l1_5.length c1_5)] 33 (0, 0))) ∧ Aside0 (Below w.heap.size w w'))
         case atStart => exact ⟨(x10_2), (0), (by rfl), H', ⟨Nat.le_refl _⟩, ⟨by (with_reducible repeat (first | apply Kd.N_alloc | apply Kd.N_drewN | apply Kd.N_drew)); exact HO_7.out⟩, ⟨by (with_reducible repeat (first | apply Kd.R_alloc | apply Kd.R_drewN | apply Kd.R_drew)); exact HO_10.out⟩, ⟨by (with_reducible repeat (first | refine blk_drewN ?_ _ | refine blk_drew ?_ | refine blk_alloc ?_ _)); exact BK241.out⟩, ⟨HB.out⟩⟩
         case round =>
          clear H' c54b0 c55b0 c56b0 hcz57_0 hcz57_1 hcz57_2 hcz57_3 hcz57_4 hcz57_5 hfz57_0 hfz57_1 hfz57_2 hfz57_3 hfz57_4 hfz57_5 hx270_0 p270 q270
          obtain ⟨x10_3, x13_3, rfl, HA, HK3, HO_7, HO_10, BK241, HB⟩ := hrel
          cases gk with
          | zero => exact absurd HA.out (by simp [slabvaultref12_Tuples.l4])
          | succ k3 =>
           have H := HA.out
           clear HA
           simp only [slabvaultref12_Tuples.l4] at H
           by_cases c58 : 0 ≤ x9_1
           case neg => rw [if_neg c58] at H; exact absurd H (by simp)
           rw [if_pos c58] at H
           have c58b0 : decide (0 ≤ x9_1) = true := decide_eq_true c58
           clear c58
           by_cases c59 : x9_1 < (l1_5.length : Int)
           case neg => rw [if_neg c59] at H; exact absurd H (by simp)
           rw [if_pos c59] at H
           have c59b0 : decide (x9_1 < (l1_5.length : Int)) = true := decide_eq_true c59
           clear c59
           by_cases c60 : x13_3 < (rd l1_5 x9_1)
           ·rw [if_pos c60] at H
            have c60b0 : decide (x13_3 < (rd l1_5 x9_1)) = true := decide_eq_true c60
            clear c60
            by_cases c61 : x9_1 < (l1_2.length : Int)
            case neg => rw [if_neg c61] at H; exact absurd H (by simp)
            rw [if_pos c61] at H
            have c61b0 : decide (x9_1 < (l1_2.length : Int)) = true := decide_eq_true c61
            clear c61
            by_cases c62 : x9_1 < (l1_3.length : Int)
            case neg => rw [if_neg c62] at H; exact absurd H (by simp)
            rw [if_pos c62] at H
            have c62b0 : decide (x9_1 < (l1_3.length : Int)) = true := decide_eq_true c62
            clear c62
            obtain ⟨y274, hy274⟩ : ∃ y_ : List Int, y_ = (([wrap64 ((wrap64 ((rd l1_2 x9_1) + (wrap64 (x12_2 * (rd l1_3 x9_1))))) + x13_3)] : List Int)) := ⟨_, rfl⟩
            replace H : (if x10_3.length + y274.length < 17592186044416 then (slabvaultref12_Tuples.l4 k3 l0 x7_1 x9_1 (x10_3 ++ y274) x12_2 (wrap64 (x13_3 + 1)) a1_0 l1_1 l1_2 l1_3 l1_4 l1_5) else (none)) = some (r1, r2) := by (have H2_ := (Option.bind_some _ _).symm.trans H; rw [hy274]; with_reducible exact H2_)
            have Ny274 := Aside0.mk hy274
            clear hy274
            by_cases c63 : x10_3.length + y274.length < 17592186044416
            case neg => rw [if_neg c63] at H; exact absurd H (by simp)
            rw [if_pos c63] at H
            have LMc63 := Aside0.mk c63
            clear c63
            obtain ⟨y277, hy277⟩ : ∃ y_ : List Int, y_ = (x10_3 ++ y274) := ⟨_, rfl⟩
            replace H : (slabvaultref12_Tuples.l4 k3 l0 x7_1 x9_1 y277 x12_2 (wrap64 (x13_3 + 1)) a1_0 l1_1 l1_2 l1_3 l1_4 l1_5) = some (r1, r2) := by (rw [hy277]; with_reducible exact H)
            have Ny277 := Aside0.mk hy277
            clear hy277
            have H' := Aside0.mk H
            clear H
            have hcz64_0 : wr.cell? ⟨gb241, 0, none⟩ = some (.int .i64 a1_0) := (blk_cell BK241.out 0).trans rfl
            have hcz64_1 : wr.cell? ⟨gb241, 1, none⟩ = some (.slice A1_1 l1_1.length c1_1) := (blk_cell BK241.out 1).trans rfl
            have hcz64_2 : wr.cell? ⟨gb241, 2, none⟩ = some (.slice A1_2 l1_2.length c1_2) := (blk_cell BK241.out 2).trans rfl
            have hcz64_3 : wr.cell? ⟨gb241, 3, none⟩ = some (.slice A1_3 l1_3.length c1_3) := (blk_cell BK241.out 3).trans rfl
            have hcz64_4 : wr.cell? ⟨gb241, 4, none⟩ = some (.slice (some ad270) l1_4.length c1_4) := (blk_cell BK241.out 4).trans rfl
            have hcz64_5 : wr.cell? ⟨gb241, 5, none⟩ = some (.slice A1_5 l1_5.length c1_5) := (blk_cell BK241.out 5).trans rfl
            have hfz64_0 := blk_frozen BK241.out 0
            have hfz64_1 := blk_frozen BK241.out 1
            have hfz64_2 := blk_frozen BK241.out 2
            have hfz64_3 := blk_frozen BK241.out 3
            have hfz64_4 := blk_frozen BK241.out 4
            have hfz64_5 := blk_frozen BK241.out 5
            have p271 : 0 ≤ (x9_1 : Int) := of_decide_eq_true (by (with_reducible assumption))
            have q271 : x9_1 < (l1_5.length : Int) := of_decide_eq_true (by (with_reducible assumption))
            obtain ⟨ad271, e271, hx271_0⟩ := Kd.at_int HR1_5.out x9_1 p271 q271
            cases e271
            replace hx271_0 := (HB.out.cell (World.block_lt_of_cell? w _ hx271_0)).trans hx271_0
            replace p271 := eq_true p271
            replace q271 := eq_true q271
            go_wp2
            have n0_ := Aside0.mk (Kd.N_drew HO_7.out)
            have n1_ := Aside0.mk (Kd.R_drew HO_10.out)
            have n2_ := Aside0.mk (blk_drew BK241.out)
            have n3_ := Aside0.mk (below_drew1 HB.out)
            clear HO_7 HO_10 BK241 HB
            have HO_7 := n0_
            have HO_10 := n1_
            have BK241 := n2_
            have HB := n3_
            clear n0_ n1_ n2_ n3_
            have p272 : 0 ≤ (x9_1 : Int) := of_decide_eq_true (by (with_reducible assumption))
            have q272 : x9_1 < (l1_2.length : Int) := of_decide_eq_true (by (with_reducible assumption))
            obtain ⟨ad272, e272, hx272_0⟩ := Kd.at_int HR1_2.out x9_1 p272 q272
            have hw272_0 := hx272_0
            cases e272
            replace hx272_0 := (HB.out.cell (World.block_lt_of_cell? w _ hx272_0)).trans hx272_0
            replace p272 := eq_true p272
            replace q272 := eq_true q272
            have p273 : 0 ≤ (x9_1 : Int) := of_decide_eq_true (by (with_reducible assumption))
            have q273 : x9_1 < (l1_3.length : Int) := of_decide_eq_true (by (with_reducible assumption))
            obtain ⟨ad273, e273, hx273_0⟩ := Kd.at_int HR1_3.out x9_1 p273 q273
            have hw273_0 := hx273_0
            cases e273
            replace hx273_0 := (HB.out.cell (World.block_lt_of_cell? w _ hx273_0)).trans hx273_0
            replace p273 := eq_true p273
            replace q273 := eq_true q273
            refine start_ (n := 19) (S := fun w' => w'.cell? ⟨gb241, 0, none⟩ = some (.int .i64 a1_0) ∧ w'.cell? ⟨gb241, 1, none⟩ = some (.slice A1_1 l1_1.length c1_1) ∧ w'.cell? ⟨gb241, 2, none⟩ = some (.slice (some ad272) l1_2.length c1_2) ∧ w'.cell? ⟨gb241, 3, none⟩ = some (.slice (some ad273) l1_3.length c1_3) ∧ w'.cell? ⟨gb241, 4, none⟩ = some (.slice (some ad270) l1_4.length c1_4) ∧ w'.cell? ⟨gb241, 5, none⟩ = some (.slice (some ad271) l1_5.length c1_5) ∧ w'.cell? (ad272.add (x9_1).toNat) = some (.int .i64 (rd l1_2 x9_1)) ∧ w'.cell? (ad273.add (x9_1).toNat) = some (.int .i64 (rd l1_3 x9_1))) (ds := []) #[false, false, false, false, false, false, false, false, false, false, false, false, false, false, false, false, false, false, false] (by kernel_rfl) rfl rfl ⟨(blk_cell BK241.out 0).trans rfl, (blk_cell BK241.out 1).trans rfl, (blk_cell BK241.out 2).trans rfl, (blk_cell BK241.out 3).trans rfl, (blk_cell BK241.out 4).trans rfl, (blk_cell BK241.out 5).trans rfl, ((HB.out.cell (World.block_lt_of_cell? w _ hw272_0)).trans hw272_0), ((HB.out.cell (World.block_lt_of_cell? w _ hw273_0)).trans hw273_0)⟩ (fun hHeld => ?_); refine with_tabW slabvaultref12_Tuples.tab29 slabvaultref12_Tuples.bits29 (fun HT_ HW_ => ?_)
            generalize wr.drew = w65 at HO_7 HO_10 BK241 HB hx272_0 hx273_0 hHeld ⊢
            refine pure_ (i := 0) (N := some 89) (v := ?_) (a' := ?_) #[true, false, false, false, false, false, false, false, false, false, false, false, false, false, false, false, false, false, false] rfl rfl (any_of HT_.out (by kernel_rfl)) (fun _ _ _ h => h) (Or.inl ⟨by rfl, ?_⟩) ?_ ?_
            rotate_left
            ·intro w'
             go_simp
             with_reducible rfl
            rotate_left
            ·simp only [Act.put, List.setIfInBounds_toArray, List.set_cons_zero, List.set_cons_succ, i64_w, i32_w]
             rfl
            refine pure_ (i := 1) (N := some 90) (v := ?_) (a' := ?_) #[true, true, false, false, false, false, false, false, false, false, false, false, false, false, false, false, false, false, false] rfl rfl (any_of HT_.out (by kernel_rfl)) (fun _ _ _ h => h) (Or.inl ⟨by rfl, ?_⟩) ?_ ?_
            rotate_left
            ·intro w'
             go_simp
             with_reducible rfl
            rotate_left
            ·simp only [Act.put, List.setIfInBounds_toArray, List.set_cons_zero, List.set_cons_succ, i64_w, i32_w]
             rfl
            refine pure_ (i := 3) (N := some 92) (v := ?_) (a' := ?_) #[true, true, false, true, false, false, false, false, false, false, false, false, false, false, false, false, false, false, false] rfl rfl (any_of HT_.out (by kernel_rfl)) (fun _ _ _ h => h) (Or.inl ⟨by rfl, ?_⟩) ?_ ?_
            rotate_left
            ·intro w'
             go_simp
             with_reducible rfl
            rotate_left
            ·simp only [Act.put, List.setIfInBounds_toArray, List.set_cons_zero, List.set_cons_succ, i64_w, i32_w]
             rfl
            refine pure_ (i := 6) (N := some 95) (v := ?_) (a' := ?_) #[true, true, false, true, false, false, true, false, false, false, false, false, false, false, false, false, false, false, false] rfl rfl (any_of HT_.out (by kernel_rfl)) (fun _ _ _ h => h) (Or.inl ⟨by rfl, ?_⟩) ?_ ?_
            rotate_left
            ·intro w'
             go_simp
             with_reducible rfl
            rotate_left
            ·simp only [Act.put, List.setIfInBounds_toArray, List.set_cons_zero, List.set_cons_succ, i64_w, i32_w]
             rfl
            refine pure_ (i := 7) (N := some 96) (v := ?_) (a' := ?_) #[true, true, false, true, false, false, true, true, false, false, false, false, false, false, false, false, false, false, false] rfl rfl (any_of HT_.out (by kernel_rfl)) (fun _ _ _ h => h) (Or.inl ⟨by rfl, ?_⟩) ?_ ?_
            rotate_left
            ·intro w'
             go_simp
             with_reducible rfl
            rotate_left
            ·simp only [Act.put, List.setIfInBounds_toArray, List.set_cons_zero, List.set_cons_succ, i64_w, i32_w]
             rfl
            refine pure_ (i := 9) (N := some 98) (v := ?_) (a' := ?_) #[true, true, false, true, false, false, true, true, false, true, false, false, false, false, false, false, false, false, false] rfl rfl (any_of HT_.out (by kernel_rfl)) (fun _ _ _ h => h) (Or.inl ⟨by rfl, ?_⟩) ?_ ?_
            rotate_left
            ·intro w'
             go_simp
             with_reducible rfl
            rotate_left
            ·simp only [Act.put, List.setIfInBounds_toArray, List.set_cons_zero, List.set_cons_succ, i64_w, i32_w]
             rfl
            refine pure_ (i := 14) (N := some 103) (v := ?_) (a' := ?_) #[true, true, false, true, false, false, true, true, false, true, false, false, false, false, true, false, false, false, false] rfl rfl (any_of HT_.out (by kernel_rfl)) (fun _ _ _ h => h) (Or.inl ⟨by rfl, ?_⟩) ?_ ?_
            rotate_left
            ·intro w'
             go_simp
             with_reducible rfl
            rotate_left
            ·simp only [Act.put, List.setIfInBounds_toArray, List.set_cons_zero, List.set_cons_succ, i64_w, i32_w]
             rfl
            refine take_ (i := 2) (N := some 91) (v := ?_) (a' := ?_) #[true, true, true, true, false, false, true, true, false, true, false, false, false, false, true, false, false, false, false] rfl rfl (take_ofW HT_.out HW_.out (by kernel_rfl)) (fun _ _ _ h => h) (Or.inl ⟨by rfl, ?_⟩) hHeld ?_ ?_
            rotate_left
            ·rintro w' ⟨s0, s1, s2, s3, s4, s5, s6, s7⟩
             go_simp
             with_reducible rfl
            rotate_left
            ·simp only [Act.put, List.setIfInBounds_toArray, List.set_cons_zero, List.set_cons_succ, i64_w, i32_w]
             rfl
            refine pure_ (i := 4) (N := some 93) (v := ?_) (a' := ?_) #[true, true, true, true, true, false, true, true, false, true, false, false, false, false, true, false, false, false, false] rfl rfl (any_of HT_.out (by kernel_rfl)) (fun _ _ _ h => h) (Or.inl ⟨by rfl, ?_⟩) ?_ ?_
            rotate_left
            ·intro w'
             go_simp
             with_reducible rfl
            rotate_left
            ·simp only [Act.put, List.setIfInBounds_toArray, List.set_cons_zero, List.set_cons_succ, i64_w, i32_w]
             rfl
            refine take_ (i := 5) (N := some 94) (v := ?_) (a' := ?_) #[true, true, true, true, true, true, true, true, false, true, false, false, false, false, true, false, false, false, false] rfl rfl (take_ofW HT_.out HW_.out (by kernel_rfl)) (fun _ _ _ h => h) (Or.inl ⟨by rfl, ?_⟩) hHeld ?_ ?_
            rotate_left
            ·rintro w' ⟨s0, s1, s2, s3, s4, s5, s6, s7⟩
             go_simp
             with_reducible rfl
            rotate_left
            ·simp only [Act.put, List.setIfInBounds_toArray, List.set_cons_zero, List.set_cons_succ, i64_w, i32_w]
             rfl
            refine take_ (i := 8) (N := some 97) (v := ?_) (a' := ?_) #[true, true, true, true, true, true, true, true, true, true, false, false, false, false, true, false, false, false, false] rfl rfl (take_ofW HT_.out HW_.out (by kernel_rfl)) (fun _ _ _ h => h) (Or.inl ⟨by rfl, ?_⟩) hHeld ?_ ?_
            rotate_left
            ·rintro w' ⟨s0, s1, s2, s3, s4, s5, s6, s7⟩
             go_simp
             with_reducible rfl
            rotate_left
            ·simp only [Act.put, List.setIfInBounds_toArray, List.set_cons_zero, List.set_cons_succ, i64_w, i32_w]
             rfl
            refine pure_ (i := 10) (N := some 99) (v := ?_) (a' := ?_) #[true, true, true, true, true, true, true, true, true, true, true, false, false, false, true, false, false, false, false] rfl rfl (any_of HT_.out (by kernel_rfl)) (fun _ _ _ h => h) (Or.inl ⟨by rfl, ?_⟩) ?_ ?_
            rotate_left
            ·intro w'
             go_simp
             with_reducible rfl
            rotate_left
            ·simp only [Act.put, List.setIfInBounds_toArray, List.set_cons_zero, List.set_cons_succ, i64_w, i32_w]
             rfl
            refine take_ (i := 11) (N := some 100) (v := ?_) (a' := ?_) #[true, true, true, true, true, true, true, true, true, true, true, true, false, false, true, false, false, false, false] rfl rfl (take_ofW HT_.out HW_.out (by kernel_rfl)) (fun _ _ _ h => h) (Or.inl ⟨by rfl, ?_⟩) hHeld ?_ ?_
            rotate_left
            ·rintro w' ⟨s0, s1, s2, s3, s4, s5, s6, s7⟩
             go_simp
             with_reducible rfl
            rotate_left
            ·simp only [Act.put, List.setIfInBounds_toArray, List.set_cons_zero, List.set_cons_succ, i64_w, i32_w]
             rfl
            refine pure_ (i := 12) (N := some 101) (v := ?_) (a' := ?_) #[true, true, true, true, true, true, true, true, true, true, true, true, true, false, true, false, false, false, false] rfl rfl (any_of HT_.out (by kernel_rfl)) (fun _ _ _ h => h) (Or.inl ⟨by rfl, ?_⟩) ?_ ?_
            rotate_left
            ·intro w'
             go_simp
             with_reducible rfl
            rotate_left
            ·simp only [Act.put, List.setIfInBounds_toArray, List.set_cons_zero, List.set_cons_succ, i64_w, i32_w]
             rfl
            refine pure_ (i := 13) (N := some 102) (v := ?_) (a' := ?_) #[true, true, true, true, true, true, true, true, true, true, true, true, true, true, true, false, false, false, false] rfl rfl (any_of HT_.out (by kernel_rfl)) (fun _ _ _ h => h) (Or.inl ⟨by rfl, ?_⟩) ?_ ?_
            rotate_left
            ·intro w'
             go_simp
             with_reducible rfl
            rotate_left
            ·simp only [Act.put, List.setIfInBounds_toArray, List.set_cons_zero, List.set_cons_succ, i64_w, i32_w]
             rfl
            refine pure_ (i := 15) (N := some 104) (v := ?_) (a' := ?_) #[true, true, true, true, true, true, true, true, true, true, true, true, true, true, true, true, false, false, false] rfl rfl (any_of HT_.out (by kernel_rfl)) (fun _ _ _ h => h) (Or.inl ⟨by rfl, ?_⟩) ?_ ?_
            rotate_left
            ·intro w'
             go_simp
             with_reducible rfl
            rotate_left
            ·simp only [Act.put, List.setIfInBounds_toArray, List.set_cons_zero, List.set_cons_succ, i64_w, i32_w]
             rfl
            refine one_ (i := 16) (N := some 105) #[true, true, true, true, true, true, true, true, true, true, true, true, true, true, true, true, true, false, false] rfl rfl (one_of HT_.out (by kernel_rfl)) (by decide) (fun K hK => ?_)
            refine Kd.R_lit_step (Kd.int .i64) _ 3 ?hg (N := 105) ?hd (xs := ([wrap64 ((wrap64 ((rd l1_2 x9_1) + (wrap64 (x12_2 * (rd l1_3 x9_1))))) + x13_3)] : List Int)) (inner := [.int .i64 (wrap64 ((wrap64 ((rd l1_2 x9_1) + (wrap64 (x12_2 * (rd l1_3 x9_1))))) + x13_3))]) (ok := fun _ => True) (okp := fun _ => True) ?hr ?hp (fun _ hk => hk) trivial (Below.refl _ _) (Nat.le_refl _) (by simp) ?_; (case hd => rfl); (case hg => rfl); (case hr => (go_simp; done)); (case hp => exact (Reps.one (show Kd.M (Kd.int .i64) _ _ _ (wrap64 ((wrap64 ((rd l1_2 x9_1) + (wrap64 (x12_2 * (rd l1_3 x9_1))))) + x13_3)) [.int .i64 (wrap64 ((wrap64 ((rd l1_2 x9_1) + (wrap64 (x12_2 * (rd l1_3 x9_1))))) + x13_3))] from rfl) (Reps.none _ _)))
            intro v275 w66 ho67 hb hg_ hnew_
            clear hg_ hnew_
            (rw [← Ny274.out] at ho67)
            have n0_ := Aside0.mk (Kd.N_elder' (by exact HO_7.out) (Kd.R_base ho67) hb)
            have n1_ := Aside0.mk (Kd.R_elder' (by exact HO_10.out) (Kd.R_base ho67) hb)
            have n2_ := Aside0.mk (Kd.R_lower (Kd.R_new' (Kd.R_newM (M := fun k_ => (w.heap.size ≤ k_)) ho67 (below_size (HB.out)) (fun k_ h_ => h_)) (Kd.R_lt (by exact HO_10.out))) (below_size (HB.out)))
            have n3_ := Aside0.mk (blk_below (g := gb241) (o := .cells #[.int .i64 a1_0, .slice A1_1 l1_1.length c1_1, .slice (some ad272) l1_2.length c1_2, .slice (some ad273) l1_3.length c1_3, .slice (some ad270) l1_4.length c1_4, .slice (some ad271) l1_5.length c1_5] 33 (0, 0)) (by exact BK241.out) hb)
            have n4_ := Aside0.mk (below_step (HB.out) hb)
            clear HO_7 HO_10 BK241 HB
            have HO_7 := n0_
            have HO_10 := n1_
            have HO276 := n2_
            have BK241 := n3_
            have HB := n4_
            clear n0_ n1_ n2_ n3_ n4_ hb ho67
            obtain ⟨Ao69, co69, eo69⟩ := Kd.R_slice HO276.out
            (subst eo69)
            refine hK.out _ _ ⟨(blk_cell BK241.out 0).trans rfl, (blk_cell BK241.out 1).trans rfl, (blk_cell BK241.out 2).trans rfl, (blk_cell BK241.out 3).trans rfl, (blk_cell BK241.out 4).trans rfl, (blk_cell BK241.out 5).trans rfl, ((HB.out.cell (World.block_lt_of_cell? w _ hw272_0)).trans hw272_0), ((HB.out.cell (World.block_lt_of_cell? w _ hw273_0)).trans hw273_0)⟩ (fun hHeld => ?_)
            clear hK K
            refine norm_ (a' := ?_) ?_ ?_
            rotate_left
            ·show Act.put _ (some 105) _ = _
             simp only [Act.put, List.setIfInBounds_toArray, List.set_cons_zero, List.set_cons_succ, i64_w, i32_w]
             rfl
            refine one_ (i := 17) (N := some 106) #[true, true, true, true, true, true, true, true, true, true, true, true, true, true, true, true, true, true, false] rfl rfl (one_of HT_.out (by kernel_rfl)) (by decide) (fun K hK => ?_)
            refine Kd.R_append_rows_step (Kd.int .i64) (w0 := w) w.heap.size (by rfl) (.tmp 89) (.tmp 105) 22 3 (.int .i64 0) 8 rfl Try.underlying22 info3 rfl (by decide) (by omega) u10 x10_3 y274 _ _ _ (fun k_ => (w.heap.size ≤ k_) ∧ some k_ ≠ (.slice Ao69 y274.length co69 : Value).ownBlock) (fun _ => False) rfl rfl ?aO ?aR (fun _ _ h => h) (fun _ h => h.elim) ?aF ?aB ?aS ?aL ?_
            (case aR => repeat (exact (Kd.R_reads' HO276.out).2.2))
            (case aB => exact (HB.out))
            (case aF => exact (fun k_ hk => ⟨(Nat.le_trans (below_size (HB.out)) hk), Kd.fresh' (Kd.R_lt (by exact HO276.out)) k_ hk⟩))
            (case aO => exact (by exact HO_10.out))
            (case aS => exact (below_size (HB.out)))
            (case aL => have := LMc63.out; omega)
            intro v278 w68 ho hb hg hat
            rw [← Ny277.out] at ho
            have n0_ := Aside0.mk (Kd.N_afterv (ok := (fun k_ => (w.heap.size ≤ k_) ∧ some k_ ≠ (.slice Ao69 y274.length co69 : Value).ownBlock ∧ k_ ≠ gb241)) (by exact Kd.N_mono HO_7.out (fun _ hk => ⟨⟨hk.1.1, ⟨hk.2, hk.1.2.2⟩⟩, hk.1.2.1⟩)) hg hat)
            have n1_ := Aside0.mk (blk_grown (g := gb241) (o := .cells #[.int .i64 a1_0, .slice A1_1 l1_1.length c1_1, .slice (some ad272) l1_2.length c1_2, .slice (some ad273) l1_3.length c1_3, .slice (some ad270) l1_4.length c1_4, .slice (some ad271) l1_5.length c1_5] 33 (0, 0)) (by exact BK241.out) hg (Kd.R_ne HO_10.out BK241.out (by decide)))
            have n2_ := Aside0.mk (Kd.R_after (ok := (fun k_ => (w.heap.size ≤ k_))) (by exact Kd.R_mono HO276.out (fun _ hk => ⟨hk.1.1, hk.2⟩)) hg hat)
            have n3_ := Aside0.mk (hb)
            have n4_ := Aside0.mk (ho)
            clear HO_7 BK241 HO276 HB HO_10
            have HO_7 := n0_
            have BK241 := n1_
            have HO276 := n2_
            have HB := n3_
            have HO279 := n4_
            clear n0_ n1_ n2_ n3_ n4_ ho hb hg hat
            refine hK.out _ _ ⟨(blk_cell BK241.out 0).trans rfl, (blk_cell BK241.out 1).trans rfl, (blk_cell BK241.out 2).trans rfl, (blk_cell BK241.out 3).trans rfl, (blk_cell BK241.out 4).trans rfl, (blk_cell BK241.out 5).trans rfl, ((HB.out.cell (World.block_lt_of_cell? w _ hw272_0)).trans hw272_0), ((HB.out.cell (World.block_lt_of_cell? w _ hw273_0)).trans hw273_0)⟩ (fun hHeld => ?_)
            clear hK K
            refine norm_ (a' := ?_) ?_ ?_
            rotate_left
            ·show Act.put _ (some 106) _ = _
             simp only [Act.put, List.setIfInBounds_toArray, List.set_cons_zero, List.set_cons_succ, i64_w, i32_w]
             rfl
            refine pure_ (i := 18) (N := some 10) (v := ?_) (a' := ?_) #[true, true, true, true, true, true, true, true, true, true, true, true, true, true, true, true, true, true, true] rfl rfl (any_of HT_.out (by kernel_rfl)) (fun _ _ _ h => h) (Or.inl ⟨by rfl, ?_⟩) ?_ ?_
            rotate_left
            ·intro w'
             go_simp
             with_reducible rfl
            rotate_left
            ·simp only [Act.put, List.setIfInBounds_toArray, List.set_cons_zero, List.set_cons_succ, i64_w, i32_w]
             rfl
            refine done_ (done_of HT_.out (by kernel_rfl)) ?_
            go_wp2
            go_roundg k3
            case measure => have := HK1.out; have := HK2.out; have := HK3.out; omega
            case rel => exact ⟨(y277), (wrap64 (x13_3 + 1)), (by rfl), H', ⟨by have := HK1.out; have := HK2.out; have := HK3.out; omega⟩, ⟨by (with_reducible repeat (first | apply Kd.N_alloc | apply Kd.N_drewN | apply Kd.N_drew)); exact Kd.N_mono HO_7.out (fun _ hk => ⟨hk.1.1, ⟨hk.2, hk.1.2.2⟩⟩)⟩, ⟨by (with_reducible repeat (first | apply Kd.R_alloc | apply Kd.R_drewN | apply Kd.R_drew)); exact Kd.R_mono HO279.out (fun _ hk => hk.1)⟩, ⟨by (with_reducible repeat (first | refine blk_drewN ?_ _ | refine blk_drew ?_ | refine blk_alloc ?_ _)); exact BK241.out⟩, ⟨HB.out⟩⟩
           rw [if_neg c60] at H
           have c60b0 : decide (x13_3 < (rd l1_5 x9_1)) = false := decide_eq_false c60
           clear c60
           have H' := Aside0.mk H
           clear H
           have hcz70_0 : wr.cell? ⟨gb241, 0, none⟩ = some (.int .i64 a1_0) := (blk_cell BK241.out 0).trans rfl
           have hcz70_1 : wr.cell? ⟨gb241, 1, none⟩ = some (.slice A1_1 l1_1.length c1_1) := (blk_cell BK241.out 1).trans rfl
           have hcz70_2 : wr.cell? ⟨gb241, 2, none⟩ = some (.slice A1_2 l1_2.length c1_2) := (blk_cell BK241.out 2).trans rfl
           have hcz70_3 : wr.cell? ⟨gb241, 3, none⟩ = some (.slice A1_3 l1_3.length c1_3) := (blk_cell BK241.out 3).trans rfl
           have hcz70_4 : wr.cell? ⟨gb241, 4, none⟩ = some (.slice (some ad270) l1_4.length c1_4) := (blk_cell BK241.out 4).trans rfl
           have hcz70_5 : wr.cell? ⟨gb241, 5, none⟩ = some (.slice A1_5 l1_5.length c1_5) := (blk_cell BK241.out 5).trans rfl
           have hfz70_0 := blk_frozen BK241.out 0
           have hfz70_1 := blk_frozen BK241.out 1
           have hfz70_2 := blk_frozen BK241.out 2
           have hfz70_3 := blk_frozen BK241.out 3
           have hfz70_4 := blk_frozen BK241.out 4
           have hfz70_5 := blk_frozen BK241.out 5
           have p271 : 0 ≤ (x9_1 : Int) := of_decide_eq_true (by (with_reducible assumption))
           have q271 : x9_1 < (l1_5.length : Int) := of_decide_eq_true (by (with_reducible assumption))
           obtain ⟨ad271, e271, hx271_0⟩ := Kd.at_int HR1_5.out x9_1 p271 q271
           cases e271
           replace hx271_0 := (HB.out.cell (World.block_lt_of_cell? w _ hx271_0)).trans hx271_0
           replace p271 := eq_true p271
           replace q271 := eq_true q271
           go_wp2
           go_roundg k3
           case measure => have := HK1.out; have := HK2.out; have := HK3.out; omega
           case rel => exact ⟨(x10_3), (wrap64 (x12_2 + 1)), (by rfl), H', ⟨by have := HK1.out; have := HK2.out; have := HK3.out; omega⟩, ⟨by (with_reducible repeat (first | apply Kd.N_alloc | apply Kd.N_drewN | apply Kd.N_drew)); exact HO_7.out⟩, ⟨by (with_reducible repeat (first | apply Kd.R_alloc | apply Kd.R_drewN | apply Kd.R_drew)); exact HO_10.out⟩, ⟨by (with_reducible repeat (first | refine blk_drewN ?_ _ | refine blk_drew ?_ | refine blk_alloc ?_ _)); exact BK241.out⟩, ⟨HB.out⟩⟩
        rw [if_neg c56] at H
        have c56b0 : decide (x12_2 < (rd l1_4 x9_1)) = false := decide_eq_false c56
        clear c56
        have H' := Aside0.mk H
        clear H
        have hcz71_0 : wr.cell? ⟨gb241, 0, none⟩ = some (.int .i64 a1_0) := (blk_cell BK241.out 0).trans rfl
        have hcz71_1 : wr.cell? ⟨gb241, 1, none⟩ = some (.slice A1_1 l1_1.length c1_1) := (blk_cell BK241.out 1).trans rfl
        have hcz71_2 : wr.cell? ⟨gb241, 2, none⟩ = some (.slice A1_2 l1_2.length c1_2) := (blk_cell BK241.out 2).trans rfl
        have hcz71_3 : wr.cell? ⟨gb241, 3, none⟩ = some (.slice A1_3 l1_3.length c1_3) := (blk_cell BK241.out 3).trans rfl
        have hcz71_4 : wr.cell? ⟨gb241, 4, none⟩ = some (.slice A1_4 l1_4.length c1_4) := (blk_cell BK241.out 4).trans rfl
        have hcz71_5 : wr.cell? ⟨gb241, 5, none⟩ = some (.slice A1_5 l1_5.length c1_5) := (blk_cell BK241.out 5).trans rfl
        have hfz71_0 := blk_frozen BK241.out 0
        have hfz71_1 := blk_frozen BK241.out 1
        have hfz71_2 := blk_frozen BK241.out 2
        have hfz71_3 := blk_frozen BK241.out 3
        have hfz71_4 := blk_frozen BK241.out 4
        have hfz71_5 := blk_frozen BK241.out 5
        have p270 : 0 ≤ (x9_1 : Int) := of_decide_eq_true (by (with_reducible assumption))
        have q270 : x9_1 < (l1_4.length : Int) := of_decide_eq_true (by (with_reducible assumption))
        obtain ⟨ad270, e270, hx270_0⟩ := Kd.at_int HR1_4.out x9_1 p270 q270
        cases e270
        replace hx270_0 := (HB.out.cell (World.block_lt_of_cell? w _ hx270_0)).trans hx270_0
        replace p270 := eq_true p270
        replace q270 := eq_true q270
        go_wp2
        go_meet
        case rel => exact ⟨_, (x10_2), H', ⟨by have := HK1.out; have := HK2.out; omega⟩, ⟨by (with_reducible repeat (first | apply Kd.N_alloc | apply Kd.N_drewN | apply Kd.N_drew)); exact HO_7.out⟩, ⟨by (with_reducible repeat (first | apply Kd.R_alloc | apply Kd.R_drewN | apply Kd.R_drew)); exact HO_10.out⟩, ⟨by (with_reducible repeat (first | refine blk_drewN ?_ _ | refine blk_drew ?_ | refine blk_alloc ?_ _)); exact BK241.out⟩, ⟨HB.out⟩⟩
     case rest =>
      clear HC43 c42b0 hcz44_0 hcz44_1 hcz44_2 hcz44_3 hcz44_4 hcz44_5 hfz44_0 hfz44_1 hfz44_2 hfz44_3 hfz44_4 hfz44_5
      obtain ⟨kq, x10_42, HA, HJ42, HO_7, HO_10, BK241, HB⟩ := hcut
      cases kq with
      | zero => exact absurd HA.out (by simp [slabvaultref12_Tuples.j5])
      | succ kj42 =>
       have H := HA.out
       clear HA
       simp only [slabvaultref12_Tuples.j5] at H
       have H' := Aside0.mk H
       clear H
       go_wp2
       go_loopg [14, 15] kj42 (fun kq v14 v15 w' => ∃ (x14_3 : List (List Int)) (x15_3 : Int), v15 = .int .i64 x15_3 ∧ Aside0 (slabvaultref12_Tuples.l5 kq l0 x7_1 x9_1 x10_42 x14_3 x15_3 a1_0 l1_1 l1_2 l1_3 l1_4 l1_5 = some (r1, r2)) ∧ Aside0 (kq ≤ kj42) ∧ Aside0 (Kd.N (Kd.slice 3 (Kd.int .i64)) 22 w' w.heap.size (fun k_ => (w.heap.size ≤ k_) ∧ some k_ ≠ (u10 : Value).ownBlock ∧ some k_ ≠ (v14 : Value).ownBlock ∧ k_ ≠ gb241) u7 x7_1) ∧ Aside0 (Kd.R (Kd.int .i64) 3 w' w.heap.size (fun k_ => (w.heap.size ≤ k_)) u10 x10_42) ∧ Aside0 (Kd.N (Kd.slice 3 (Kd.int .i64)) 22 w' w.heap.size (fun k_ => (w.heap.size ≤ k_) ∧ some k_ ≠ (u7 : Value).ownBlock ∧ some k_ ≠ (u10 : Value).ownBlock ∧ k_ ≠ gb241) v14 x14_3) ∧ Aside0 (w'.heap[gb241]? = some (.cells #[.int .i64 a1_0, (.slice A1_1 l1_1.length c1_1), (.slice A1_2 l1_2.length c1_2), (.slice A1_3 l1_3.length c1_3), (.slice A1_4 l1_4.length c1_4), (.slice A1_5 l1_5.length c1_5)] 33 (0, 0))) ∧ Aside0 (Below w.heap.size w w'))
       case atStart => exact ⟨(([] : List (List Int))), (0), (by rfl), H', ⟨Nat.le_refl _⟩, ⟨by (with_reducible repeat (first | apply Kd.N_alloc | apply Kd.N_drewN | apply Kd.N_drew)); exact Kd.N_mono HO_7.out (fun _ hk => ⟨hk.1, ⟨hk.2.1, ⟨(by simp [Value.ownBlock]), hk.2.2⟩⟩⟩)⟩, ⟨by (with_reducible repeat (first | apply Kd.R_alloc | apply Kd.R_drewN | apply Kd.R_drew)); exact HO_10.out⟩, ⟨by exact Kd.N_nil _ _ _ _ _⟩, ⟨by (with_reducible repeat (first | refine blk_drewN ?_ _ | refine blk_drew ?_ | refine blk_alloc ?_ _)); exact BK241.out⟩, ⟨HB.out⟩⟩
       case round =>
        clear H'
        obtain ⟨x14_3, x15_3, rfl, HA, HK3, HO_7, HO_10, HO_14, BK241, HB⟩ := hrel
        cases gk with
        | zero => exact absurd HA.out (by simp [slabvaultref12_Tuples.l5])
        | succ k3 =>
         have H := HA.out
         clear HA
         simp only [slabvaultref12_Tuples.l5] at H
         by_cases c72 : x15_3 < (x7_1.length : Int)
         ·rw [if_pos c72] at H
          have c72b0 : decide (x15_3 < (x7_1.length : Int)) = true := decide_eq_true c72
          clear c72
          have H' := Aside0.mk H
          clear H
          obtain ⟨Ao73, co73, eo73⟩ := Kd.N_slice HO_7.out
          subst eo73
          go_wp2
          go_loopg [14, 16] k3 (fun kq v14 v16 w' => ∃ (x14_4 : List (List Int)) (x16_4 : Int), v16 = .int .i64 x16_4 ∧ Aside0 (slabvaultref12_Tuples.l6 kq l0 x7_1 x9_1 x10_42 x14_4 x15_3 x16_4 a1_0 l1_1 l1_2 l1_3 l1_4 l1_5 = some (r1, r2)) ∧ Aside0 (kq ≤ k3) ∧ Aside0 (Kd.N (Kd.slice 3 (Kd.int .i64)) 22 w' w.heap.size (fun k_ => (w.heap.size ≤ k_) ∧ some k_ ≠ (u10 : Value).ownBlock ∧ some k_ ≠ (v14 : Value).ownBlock ∧ k_ ≠ gb241) (.slice Ao73 x7_1.length co73) x7_1) ∧ Aside0 (Kd.R (Kd.int .i64) 3 w' w.heap.size (fun k_ => (w.heap.size ≤ k_)) u10 x10_42) ∧ Aside0 (Kd.N (Kd.slice 3 (Kd.int .i64)) 22 w' w.heap.size (fun k_ => (w.heap.size ≤ k_) ∧ some k_ ≠ ((.slice Ao73 x7_1.length co73) : Value).ownBlock ∧ some k_ ≠ (u10 : Value).ownBlock ∧ k_ ≠ gb241) v14 x14_4) ∧ Aside0 (w'.heap[gb241]? = some (.cells #[.int .i64 a1_0, (.slice A1_1 l1_1.length c1_1), (.slice A1_2 l1_2.length c1_2), (.slice A1_3 l1_3.length c1_3), (.slice A1_4 l1_4.length c1_4), (.slice A1_5 l1_5.length c1_5)] 33 (0, 0))) ∧ Aside0 (Below w.heap.size w w'))
          case atStart => exact ⟨(x14_3), (0), (by rfl), H', ⟨Nat.le_refl _⟩, ⟨by (with_reducible repeat (first | apply Kd.N_alloc | apply Kd.N_drewN | apply Kd.N_drew)); exact HO_7.out⟩, ⟨by (with_reducible repeat (first | apply Kd.R_alloc | apply Kd.R_drewN | apply Kd.R_drew)); exact HO_10.out⟩, ⟨by (with_reducible repeat (first | apply Kd.N_alloc | apply Kd.N_drewN | apply Kd.N_drew)); exact HO_14.out⟩, ⟨by (with_reducible repeat (first | refine blk_drewN ?_ _ | refine blk_drew ?_ | refine blk_alloc ?_ _)); exact BK241.out⟩, ⟨HB.out⟩⟩
          case round =>
           clear H' c72b0
           obtain ⟨x14_4, x16_4, rfl, HA, HK4, HO_7, HO_10, HO_14, BK241, HB⟩ := hrel
           cases gk with
           | zero => exact absurd HA.out (by simp [slabvaultref12_Tuples.l6])
           | succ k4 =>
            have H := HA.out
            clear HA
            simp only [slabvaultref12_Tuples.l6] at H
            by_cases c74 : x16_4 < (x10_42.length : Int)
            ·rw [if_pos c74] at H
             have c74b0 : decide (x16_4 < (x10_42.length : Int)) = true := decide_eq_true c74
             clear c74
             obtain ⟨y280, hy280⟩ : ∃ y_ : List Int, y_ = (([] : List Int)) := ⟨_, rfl⟩
             replace H : (if 0 ≤ x15_3 then (if x15_3 < (x7_1.length : Int) then (if y280.length + (rd_L1 x7_1 x15_3).length < 17592186044416 then ((some (y280 ++ (rd_L1 x7_1 x15_3) : List Int)).bind fun y284 => (if 0 ≤ x16_4 then ((some (([rd x10_42 x16_4] : List Int) : List Int)).bind fun y288 => (if y284.length + y288.length < 17592186044416 then ((some (([(y284 ++ y288)] : List (List Int)) : List (List Int))).bind fun y294 => (if x14_4.length + y294.length < 5864062014805 then (slabvaultref12_Tuples.l6 k4 l0 x7_1 x9_1 x10_42 (x14_4 ++ y294) x15_3 (wrap64 (x16_4 + 1)) a1_0 l1_1 l1_2 l1_3 l1_4 l1_5) else (none))) else (none))) else (none))) else (none)) else (none)) else (none)) = some (r1, r2) := by (have H2_ := (Option.bind_some _ _).symm.trans H; rw [hy280]; with_reducible exact H2_)
             have Ny280 := Aside0.mk hy280
             clear hy280
             by_cases c75 : 0 ≤ x15_3
             case neg => rw [if_neg c75] at H; exact absurd H (by simp)
             rw [if_pos c75] at H
             have c75b0 : decide (0 ≤ x15_3) = true := decide_eq_true c75
             clear c75
             by_cases c76 : x15_3 < (x7_1.length : Int)
             case neg => rw [if_neg c76] at H; exact absurd H (by simp)
             rw [if_pos c76] at H
             have c76b0 : decide (x15_3 < (x7_1.length : Int)) = true := decide_eq_true c76
             clear c76
             by_cases c77 : y280.length + (rd_L1 x7_1 x15_3).length < 17592186044416
             case neg => rw [if_neg c77] at H; exact absurd H (by simp)
             rw [if_pos c77] at H
             have LMc77 := Aside0.mk c77
             clear c77
             obtain ⟨y284, hy284⟩ : ∃ y_ : List Int, y_ = (y280 ++ (rd_L1 x7_1 x15_3)) := ⟨_, rfl⟩
             replace H : (if 0 ≤ x16_4 then ((some (([rd x10_42 x16_4] : List Int) : List Int)).bind fun y288 => (if y284.length + y288.length < 17592186044416 then ((some (([(y284 ++ y288)] : List (List Int)) : List (List Int))).bind fun y294 => (if x14_4.length + y294.length < 5864062014805 then (slabvaultref12_Tuples.l6 k4 l0 x7_1 x9_1 x10_42 (x14_4 ++ y294) x15_3 (wrap64 (x16_4 + 1)) a1_0 l1_1 l1_2 l1_3 l1_4 l1_5) else (none))) else (none))) else (none)) = some (r1, r2) := by (have H2_ := (Option.bind_some _ _).symm.trans H; rw [hy284]; with_reducible exact H2_)
             have Ny284 := Aside0.mk hy284
             clear hy284
             by_cases c78 : 0 ≤ x16_4
             case neg => rw [if_neg c78] at H; exact absurd H (by simp)
             rw [if_pos c78] at H
             have c78b0 : decide (0 ≤ x16_4) = true := decide_eq_true c78
             clear c78
             obtain ⟨y288, hy288⟩ : ∃ y_ : List Int, y_ = (([rd x10_42 x16_4] : List Int)) := ⟨_, rfl⟩
             replace H : (if y284.length + y288.length < 17592186044416 then ((some (([(y284 ++ y288)] : List (List Int)) : List (List Int))).bind fun y294 => (if x14_4.length + y294.length < 5864062014805 then (slabvaultref12_Tuples.l6 k4 l0 x7_1 x9_1 x10_42 (x14_4 ++ y294) x15_3 (wrap64 (x16_4 + 1)) a1_0 l1_1 l1_2 l1_3 l1_4 l1_5) else (none))) else (none)) = some (r1, r2) := by (have H2_ := (Option.bind_some _ _).symm.trans H; rw [hy288]; with_reducible exact H2_)
             have Ny288 := Aside0.mk hy288
             clear hy288
             by_cases c79 : y284.length + y288.length < 17592186044416
             case neg => rw [if_neg c79] at H; exact absurd H (by simp)
             rw [if_pos c79] at H
             have LMc79 := Aside0.mk c79
             clear c79
             obtain ⟨y291, hy291⟩ : ∃ y_ : List Int, y_ = (y284 ++ y288) := ⟨_, rfl⟩
             replace H : ((some (([y291] : List (List Int)) : List (List Int))).bind fun y294 => (if x14_4.length + y294.length < 5864062014805 then (slabvaultref12_Tuples.l6 k4 l0 x7_1 x9_1 x10_42 (x14_4 ++ y294) x15_3 (wrap64 (x16_4 + 1)) a1_0 l1_1 l1_2 l1_3 l1_4 l1_5) else (none))) = some (r1, r2) := by (rw [hy291]; with_reducible exact H)
             have Ny291 := Aside0.mk hy291
             clear hy291
             obtain ⟨y294, hy294⟩ : ∃ y_ : List (List Int), y_ = (([y291] : List (List Int))) := ⟨_, rfl⟩
             replace H : (if x14_4.length + y294.length < 5864062014805 then (slabvaultref12_Tuples.l6 k4 l0 x7_1 x9_1 x10_42 (x14_4 ++ y294) x15_3 (wrap64 (x16_4 + 1)) a1_0 l1_1 l1_2 l1_3 l1_4 l1_5) else (none)) = some (r1, r2) := by (have H2_ := (Option.bind_some _ _).symm.trans H; rw [hy294]; with_reducible exact H2_)
             have Ny294 := Aside0.mk hy294
             clear hy294
             by_cases c80 : x14_4.length + y294.length < 5864062014805
             case neg => rw [if_neg c80] at H; exact absurd H (by simp)
             rw [if_pos c80] at H
             have LMc80 := Aside0.mk c80
             clear c80
             obtain ⟨y297, hy297⟩ : ∃ y_ : List (List Int), y_ = (x14_4 ++ y294) := ⟨_, rfl⟩
             replace H : (slabvaultref12_Tuples.l6 k4 l0 x7_1 x9_1 x10_42 y297 x15_3 (wrap64 (x16_4 + 1)) a1_0 l1_1 l1_2 l1_3 l1_4 l1_5) = some (r1, r2) := by (rw [hy297]; with_reducible exact H)
             have Ny297 := Aside0.mk hy297
             clear hy297
             have H' := Aside0.mk H
             clear H
             obtain ⟨Ao81, co81, eo81⟩ := Kd.R_slice HO_10.out
             subst eo81
             obtain ⟨Ao82, co82, eo82⟩ := Kd.N_slice HO_14.out
             subst eo82
             go_wp2
             have n0_ := Aside0.mk (Kd.N_drew HO_7.out)
             have n1_ := Aside0.mk (Kd.R_drew HO_10.out)
             have n2_ := Aside0.mk (Kd.N_drew HO_14.out)
             have n3_ := Aside0.mk (blk_drew BK241.out)
             have n4_ := Aside0.mk (below_drew1 HB.out)
             clear HO_7 HO_10 HO_14 BK241 HB
             have HO_7 := n0_
             have HO_10 := n1_
             have HO_14 := n2_
             have BK241 := n3_
             have HB := n4_
             clear n0_ n1_ n2_ n3_ n4_
             have p283 : 0 ≤ (x15_3 : Int) := of_decide_eq_true (by (with_reducible assumption))
             have q283 : x15_3 < (x7_1.length : Int) := of_decide_eq_true (by (with_reducible assumption))
             obtain ⟨ad283, A283_0, c283_0, e283, hx283_0, hl283_0, hi283_0⟩ := at_L1 (Kd.N_reads' HO_7.out).2.2 x15_3 p283 q283
             cases e283
             obtain ⟨ce283, hce283, hMe283, hcc283⟩ := Kd.N_get HO_7.out [] x15_3 p283 (by exact q283)
             obtain ⟨ua283_0, uc283_0, rfl, ul283_0, ge283_0⟩ := Kd.FK_slice_open hMe283
             have hv283_0 := hcc283 0 _ rfl
             rw [Nat.add_zero, show ((Kd.slice 3 (Kd.int .i64))).sz = 1 from rfl, Nat.mul_one] at hv283_0
             replace hv283_0 := Option.some.inj (hv283_0.symm.trans hx283_0)
             injection hv283_0 with hva_ hvn_ hvc_
             rw [hva_] at ge283_0
             rw [hvc_] at ul283_0
             have HL283_0 := Aside0.mk (show Kd.V (Kd.int .i64) 3 _ w.heap.size _ _ (rd_L1 x7_1 x15_3) from Kd.V_mk ul283_0 ge283_0)
             clear hva_ hvn_ hvc_ ge283_0 ul283_0 hcc283 hce283
             have HR283_0 := Aside0.mk hi283_0
             have HC283_0 := Aside0.mk hl283_0
             clear hi283_0 hl283_0
             replace p283 := eq_true p283
             replace q283 := eq_true q283
             have p287 : 0 ≤ (x16_4 : Int) := of_decide_eq_true (by (with_reducible assumption))
             have q287 : x16_4 < (x10_42.length : Int) := of_decide_eq_true (by (with_reducible assumption))
             obtain ⟨ad287, e287, hx287_0⟩ := Kd.at_int (Kd.R_reads' HO_10.out).2.2 x16_4 p287 q287
             cases e287
             replace p287 := eq_true p287
             replace q287 := eq_true q287
             refine start_ (n := 16) (S := fun w' => w'.cell? (ad283.add (x15_3).toNat) = some (.slice A283_0 (rd_L1 x7_1 x15_3).length c283_0) ∧ w'.cell? (ad287.add (x16_4).toNat) = some (.int .i64 (rd x10_42 x16_4))) (ds := []) #[false, false, false, false, false, false, false, false, false, false, false, false, false, false, false, false] (by kernel_rfl) rfl rfl ⟨hx283_0, hx287_0⟩ (fun hHeld => ?_); refine with_tabW slabvaultref12_Tuples.tab37 slabvaultref12_Tuples.bits37 (fun HT_ HW_ => ?_)
             generalize wr.drew = w83 at HO_7 HO_10 HO_14 BK241 HB HL283_0 HR283_0 hx283_0 hx287_0 hHeld ⊢
             refine pure_ (i := 0) (N := some 119) (v := ?_) (a' := ?_) #[true, false, false, false, false, false, false, false, false, false, false, false, false, false, false, false] rfl rfl (any_of HT_.out (by kernel_rfl)) (fun _ _ _ h => h) (Or.inl ⟨by rfl, ?_⟩) ?_ ?_
             rotate_left
             ·intro w'
              go_simp
              with_reducible rfl
             rotate_left
             ·simp only [Act.put, List.setIfInBounds_toArray, List.set_cons_zero, List.set_cons_succ, i64_w, i32_w]
              rfl
             refine pure_ (i := 2) (N := some 121) (v := ?_) (a' := ?_) #[true, false, true, false, false, false, false, false, false, false, false, false, false, false, false, false] rfl rfl (any_of HT_.out (by kernel_rfl)) (fun _ _ _ h => h) (Or.inl ⟨by rfl, ?_⟩) ?_ ?_
             rotate_left
             ·intro w'
              go_simp
              with_reducible rfl
             rotate_left
             ·simp only [Act.put, List.setIfInBounds_toArray, List.set_cons_zero, List.set_cons_succ, i64_w, i32_w]
              rfl
             refine pure_ (i := 3) (N := some 122) (v := ?_) (a' := ?_) #[true, false, true, true, false, false, false, false, false, false, false, false, false, false, false, false] rfl rfl (any_of HT_.out (by kernel_rfl)) (fun _ _ _ h => h) (Or.inl ⟨by rfl, ?_⟩) ?_ ?_
             rotate_left
             ·intro w'
              go_simp
              with_reducible rfl
             rotate_left
             ·simp only [Act.put, List.setIfInBounds_toArray, List.set_cons_zero, List.set_cons_succ, i64_w, i32_w]
              rfl
             refine pure_ (i := 4) (N := some 123) (v := ?_) (a' := ?_) #[true, false, true, true, true, false, false, false, false, false, false, false, false, false, false, false] rfl rfl (any_of HT_.out (by kernel_rfl)) (fun _ _ _ h => h) (Or.inl ⟨by rfl, ?_⟩) ?_ ?_
             rotate_left
             ·intro w'
              go_simp
              with_reducible rfl
             rotate_left
             ·simp only [Act.put, List.setIfInBounds_toArray, List.set_cons_zero, List.set_cons_succ, i64_w, i32_w]
              rfl
             refine pure_ (i := 7) (N := some 126) (v := ?_) (a' := ?_) #[true, false, true, true, true, false, false, true, false, false, false, false, false, false, false, false] rfl rfl (any_of HT_.out (by kernel_rfl)) (fun _ _ _ h => h) (Or.inl ⟨by rfl, ?_⟩) ?_ ?_
             rotate_left
             ·intro w'
              go_simp
              with_reducible rfl
             rotate_left
             ·simp only [Act.put, List.setIfInBounds_toArray, List.set_cons_zero, List.set_cons_succ, i64_w, i32_w]
              rfl
             refine pure_ (i := 8) (N := some 127) (v := ?_) (a' := ?_) #[true, false, true, true, true, false, false, true, true, false, false, false, false, false, false, false] rfl rfl (any_of HT_.out (by kernel_rfl)) (fun _ _ _ h => h) (Or.inl ⟨by rfl, ?_⟩) ?_ ?_
             rotate_left
             ·intro w'
              go_simp
              with_reducible rfl
             rotate_left
             ·simp only [Act.put, List.setIfInBounds_toArray, List.set_cons_zero, List.set_cons_succ, i64_w, i32_w]
              rfl
             refine pure_ (i := 9) (N := some 128) (v := ?_) (a' := ?_) #[true, false, true, true, true, false, false, true, true, true, false, false, false, false, false, false] rfl rfl (any_of HT_.out (by kernel_rfl)) (fun _ _ _ h => h) (Or.inl ⟨by rfl, ?_⟩) ?_ ?_
             rotate_left
             ·intro w'
              go_simp
              with_reducible rfl
             rotate_left
             ·simp only [Act.put, List.setIfInBounds_toArray, List.set_cons_zero, List.set_cons_succ, i64_w, i32_w]
              rfl
             refine take_ (i := 5) (N := some 124) (v := ?_) (a' := ?_) #[true, false, true, true, true, true, false, true, true, true, false, false, false, false, false, false] rfl rfl (take_ofW HT_.out HW_.out (by kernel_rfl)) (fun _ _ _ h => h) (Or.inl ⟨by rfl, ?_⟩) hHeld ?_ ?_
             rotate_left
             ·rintro w' ⟨s0, s1⟩
              go_simp
              with_reducible rfl
             rotate_left
             ·simp only [Act.put, List.setIfInBounds_toArray, List.set_cons_zero, List.set_cons_succ, i64_w, i32_w]
              rfl
             refine take_ (i := 10) (N := some 129) (v := ?_) (a' := ?_) #[true, false, true, true, true, true, false, true, true, true, true, false, false, false, false, false] rfl rfl (take_ofW HT_.out HW_.out (by kernel_rfl)) (fun _ _ _ h => h) (Or.inl ⟨by rfl, ?_⟩) hHeld ?_ ?_
             rotate_left
             ·rintro w' ⟨s0, s1⟩
              go_simp
              with_reducible rfl
             rotate_left
             ·simp only [Act.put, List.setIfInBounds_toArray, List.set_cons_zero, List.set_cons_succ, i64_w, i32_w]
              rfl
             refine join_ (σ := Value × Value × Value) 4 #[true, true, true, true, true, true, true, true, true, true, true, true, false, false, false, false] (fun s_ => [(120, s_.1), (125, s_.2.1), (130, s_.2.2)]) (fun s_ w' => (w'.cell? (ad283.add (x15_3).toNat) = some (.slice A283_0 (rd_L1 x7_1 x15_3).length c283_0) ∧ w'.cell? (ad287.add (x16_4).toNat) = some (.int .i64 (rd x10_42 x16_4))) ∧ (Kd.V (Kd.int .i64) 3 w' w.heap.size (fun k_ => (w.heap.size ≤ k_) ∧ some k_ ≠ (s_.2.1 : Value).ownBlock ∧ some k_ ≠ (s_.2.2 : Value).ownBlock ∧ some k_ ≠ (.slice (some ad287) x10_42.length co81 : Value).ownBlock ∧ some k_ ≠ (.slice Ao82 x14_4.length co82 : Value).ownBlock ∧ some k_ ≠ (.slice (some ad283) x7_1.length co73 : Value).ownBlock ∧ k_ ≠ gb241) (.slice A283_0 (rd_L1 x7_1 x15_3).length c283_0) (rd_L1 x7_1 x15_3)) ∧ (Kd.R (Kd.int .i64) 3 w' w.heap.size (fun k_ => (w.heap.size ≤ k_) ∧ some k_ ≠ (s_.2.2 : Value).ownBlock ∧ some k_ ≠ (.slice (some ad287) x10_42.length co81 : Value).ownBlock) s_.2.1 y284) ∧ (Kd.R (Kd.int .i64) 3 w' w.heap.size (fun k_ => (w.heap.size ≤ k_) ∧ some k_ ≠ (s_.2.1 : Value).ownBlock ∧ some k_ ≠ (.slice (some ad287) x10_42.length co81 : Value).ownBlock) s_.2.2 y288) ∧ (Kd.R (Kd.int .i64) 3 w' w.heap.size (fun k_ => (w.heap.size ≤ k_) ∧ some k_ ≠ (s_.2.1 : Value).ownBlock ∧ some k_ ≠ (s_.2.2 : Value).ownBlock) (.slice (some ad287) x10_42.length co81) x10_42) ∧ (Kd.N (Kd.slice 3 (Kd.int .i64)) 22 w' w.heap.size (fun k_ => (w.heap.size ≤ k_) ∧ some k_ ≠ (s_.2.1 : Value).ownBlock ∧ some k_ ≠ (s_.2.2 : Value).ownBlock ∧ some k_ ≠ (.slice (some ad287) x10_42.length co81 : Value).ownBlock ∧ some k_ ≠ (.slice (some ad283) x7_1.length co73 : Value).ownBlock ∧ k_ ≠ gb241) (.slice Ao82 x14_4.length co82) x14_4) ∧ (Kd.N (Kd.slice 3 (Kd.int .i64)) 22 w' w.heap.size (fun k_ => (w.heap.size ≤ k_) ∧ some k_ ≠ (s_.2.1 : Value).ownBlock ∧ some k_ ≠ (s_.2.2 : Value).ownBlock ∧ some k_ ≠ (.slice (some ad287) x10_42.length co81 : Value).ownBlock ∧ some k_ ≠ (.slice Ao82 x14_4.length co82 : Value).ownBlock ∧ k_ ≠ gb241) (.slice (some ad283) x7_1.length co73) x7_1) ∧ (w'.heap[gb241]? = some (.cells #[.int .i64 a1_0, .slice A1_1 l1_1.length c1_1, .slice A1_2 l1_2.length c1_2, .slice A1_3 l1_3.length c1_3, .slice A1_4 l1_4.length c1_4, .slice A1_5 l1_5.length c1_5] 33 (0, 0))) ∧ (Below w.heap.size w w')) ?_ ?_
             rotate_left
             ·intro hCont
              refine two_ (i := 1) (j := 11) (Ni := some 120) (Nj := some 130) #[true, true, true, true, true, true, false, true, true, true, true, false, false, false, false, false] #[true, false, true, true, true, true, false, true, true, true, true, true, false, false, false, false] rfl rfl rfl rfl (two_of HT_.out (by kernel_rfl)) (by decide) (by decide) (fun K hK => ?_) (fun K hK => ?_)
              ·skip
               refine Kd.R_lit_step (Kd.int .i64) _ 3 ?hg (N := 120) ?hd (xs := ([] : List Int)) (inner := []) (ok := fun _ => True) (okp := fun _ => True) ?hr ?hp (fun _ hk => hk) trivial (Below.refl _ _) (Nat.le_refl _) (by simp) ?_; (case hd => rfl); (case hg => rfl); (case hr => (go_simp; done)); (case hp => exact (Reps.none _ _))
               intro v281 w84 ho85 hb hg_ hnew_
               have HS0_ := (hb.cell (World.block_lt_of_cell? _ _ (hHeld.1))).trans (hHeld.1)
               have HS1_ := (hb.cell (World.block_lt_of_cell? _ _ (hHeld.2))).trans (hHeld.2)
               clear hg_ hnew_
               (rw [← Ny280.out] at ho85)
               have n0_ := Aside0.mk (Kd.N_elder' (by exact HO_7.out) (Kd.R_base ho85) hb)
               have n1_ := Aside0.mk (Kd.R_elder' (by exact HO_10.out) (Kd.R_base ho85) hb)
               have n2_ := Aside0.mk (Kd.N_elder' (by exact HO_14.out) (Kd.R_base ho85) hb)
               have n3_ := Aside0.mk (Kd.V_elder' (by exact HL283_0.out) (Kd.R_base ho85) hb)
               have n4_ := Aside0.mk (Kd.R_lower (Kd.R_new' (Kd.R_newM (M := fun k_ => (w.heap.size ≤ k_)) ho85 (below_size (HB.out)) (fun k_ h_ => h_)) (Kd.R_lt (by exact HO_10.out))) (below_size (HB.out)))
               have n5_ := Aside0.mk (blk_below (g := gb241) (o := .cells #[.int .i64 a1_0, .slice A1_1 l1_1.length c1_1, .slice A1_2 l1_2.length c1_2, .slice A1_3 l1_3.length c1_3, .slice A1_4 l1_4.length c1_4, .slice A1_5 l1_5.length c1_5] 33 (0, 0)) (by exact BK241.out) hb)
               have n6_ := Aside0.mk (Kd.C_below (by repeat ((with_reducible exact HR283_0.out))) hb)
               have n7_ := Aside0.mk (below_step (HB.out) hb)
               clear HO_7 HO_10 HO_14 HL283_0 BK241 HR283_0 HB
               have HO_7 := n0_
               have HO_10 := n1_
               have HO_14 := n2_
               have HL283_0 := n3_
               have HO282 := n4_
               have BK241 := n5_
               have HR283_0 := n6_
               have HB := n7_
               clear n0_ n1_ n2_ n3_ n4_ n5_ n6_ n7_ hb ho85
               refine hK.out _ _ ⟨HS0_, HS1_⟩ (fun hHeld => ?_)
               clear hK K
               refine norm_ (a' := ?_) ?_ ?_
               rotate_left
               ·show Act.put _ (some 120) _ = _
                simp only [Act.put, List.setIfInBounds_toArray, List.set_cons_zero, List.set_cons_succ, i64_w, i32_w]
                rfl
               refine two_ (i := 6) (j := 11) (Ni := some 125) (Nj := some 130) #[true, true, true, true, true, true, true, true, true, true, true, false, false, false, false, false] #[true, true, true, true, true, true, false, true, true, true, true, true, false, false, false, false] rfl rfl rfl rfl (two_of HT_.out (by kernel_rfl)) (by decide) (by decide) (fun K hK => ?_) (fun K hK => ?_)
               ·skip
                refine Kd.R_append_rows_step (Kd.int .i64) (w0 := w) w.heap.size (by rfl) (.tmp 120) (.tmp 124) 22 3 (.int .i64 0) 8 rfl Try.underlying22 info3 rfl (by decide) (by omega) v281 y280 (rd_L1 x7_1 x15_3) _ _ _ (fun k_ => (w.heap.size ≤ k_) ∧ some k_ ≠ (.slice (some ad287) x10_42.length co81 : Value).ownBlock) (fun _ => False) rfl rfl ?aO ?aR (fun _ _ h => h) (fun _ h => h.elim) ?aF ?aB ?aS ?aL ?_
                (case aR => repeat (exact (by repeat (exact HR283_0.out))))
                (case aB => exact (HB.out))
                (case aF => exact (fun k_ hk => ⟨(Nat.le_trans (below_size (HB.out)) hk), Kd.fresh' (Kd.R_lt (by exact HO_10.out)) k_ hk⟩))
                (case aO => exact (by exact Kd.R_mono HO282.out (fun _ hk => ⟨hk.1.1, hk.2⟩)))
                (case aS => exact (below_size (HB.out)))
                (case aL => have := LMc77.out; omega)
                intro v285 w86 ho hb hg hat
                have HS0_ := cell_grown hg (by exact hHeld.1) (by rw [add_block]; exact Kd.R_ne HO282.out (Kd.N_typed HO_7.out _ rfl).choose_spec (by decide))
                have HS1_ := cell_grown hg (by exact hHeld.2) (by rw [add_block]; exact fun e_ => (HO282.out.1 _ e_.symm).2 rfl)
                rw [← Ny284.out] at ho
                have n0_ := Aside0.mk (Kd.N_afterv (ok := (fun k_ => (w.heap.size ≤ k_) ∧ some k_ ≠ (.slice (some ad287) x10_42.length co81 : Value).ownBlock ∧ some k_ ≠ (.slice Ao82 x14_4.length co82 : Value).ownBlock ∧ k_ ≠ gb241)) (by exact HO_7.out) hg hat)
                have n1_ := Aside0.mk (Kd.R_after (ok := (fun k_ => (w.heap.size ≤ k_))) (by exact HO_10.out) hg hat)
                have n2_ := Aside0.mk (Kd.N_afterv (ok := (fun k_ => (w.heap.size ≤ k_) ∧ some k_ ≠ (.slice (some ad283) x7_1.length co73 : Value).ownBlock ∧ some k_ ≠ (.slice (some ad287) x10_42.length co81 : Value).ownBlock ∧ k_ ≠ gb241)) (by exact HO_14.out) hg hat)
                have n3_ := Aside0.mk (blk_grown (g := gb241) (o := .cells #[.int .i64 a1_0, .slice A1_1 l1_1.length c1_1, .slice A1_2 l1_2.length c1_2, .slice A1_3 l1_3.length c1_3, .slice A1_4 l1_4.length c1_4, .slice A1_5 l1_5.length c1_5] 33 (0, 0)) (by exact BK241.out) hg (Kd.R_ne HO282.out BK241.out (by decide)))
                have n4_ := Aside0.mk (Kd.V_afterv (ok := (fun k_ => (w.heap.size ≤ k_) ∧ some k_ ≠ (.slice (some ad283) x7_1.length co73 : Value).ownBlock ∧ some k_ ≠ (.slice (some ad287) x10_42.length co81 : Value).ownBlock ∧ some k_ ≠ (.slice Ao82 x14_4.length co82 : Value).ownBlock ∧ k_ ≠ gb241)) (by exact Kd.V_mono HL283_0.out (fun _ hk => ⟨⟨hk.1.1.1, ⟨hk.1.2, ⟨hk.1.1.2.1, ⟨hk.1.1.2.2.1, hk.1.1.2.2.2⟩⟩⟩⟩, hk.2⟩)) hg hat)
                have n5_ := Aside0.mk (hb)
                have n6_ := Aside0.mk (ho)
                clear HO_7 HO_10 HO_14 BK241 HL283_0 HB HO282
                have HO_7 := n0_
                have HO_10 := n1_
                have HO_14 := n2_
                have BK241 := n3_
                have HL283_0 := n4_
                have HB := n5_
                have HO286 := n6_
                clear n0_ n1_ n2_ n3_ n4_ n5_ n6_ ho hb hg hat
                refine hK.out _ _ ⟨HS0_, HS1_⟩ (fun hHeld => ?_)
                clear hK K
                refine norm_ (a' := ?_) ?_ ?_
                rotate_left
                ·show Act.put _ (some 125) _ = _
                 simp only [Act.put, List.setIfInBounds_toArray, List.set_cons_zero, List.set_cons_succ, i64_w, i32_w]
                 rfl
                refine one_ (i := 11) (N := some 130) #[true, true, true, true, true, true, true, true, true, true, true, true, false, false, false, false] rfl rfl (one_of HT_.out (by kernel_rfl)) (by decide) (fun K hK => ?_)
                refine Kd.R_lit_step (Kd.int .i64) _ 3 ?hg (N := 130) ?hd (xs := ([rd x10_42 x16_4] : List Int)) (inner := [.int .i64 (rd x10_42 x16_4)]) (ok := fun _ => True) (okp := fun _ => True) ?hr ?hp (fun _ hk => hk) trivial (Below.refl _ _) (Nat.le_refl _) (by simp) ?_; (case hd => rfl); (case hg => rfl); (case hr => (go_simp; done)); (case hp => exact (Reps.one (show Kd.M (Kd.int .i64) _ _ _ (rd x10_42 x16_4) [.int .i64 (rd x10_42 x16_4)] from rfl) (Reps.none _ _)))
                intro v289 w87 ho88 hb hg_ hnew_
                have HS0_ := (hb.cell (World.block_lt_of_cell? _ _ (hHeld.1))).trans (hHeld.1)
                have HS1_ := (hb.cell (World.block_lt_of_cell? _ _ (hHeld.2))).trans (hHeld.2)
                clear hg_ hnew_
                (rw [← Ny288.out] at ho88)
                have n0_ := Aside0.mk (Kd.N_elder' (by exact HO_7.out) (Kd.R_base ho88) hb)
                have n1_ := Aside0.mk (Kd.R_elder' (by exact HO_10.out) (Kd.R_base ho88) hb)
                have n2_ := Aside0.mk (Kd.N_elder' (by exact HO_14.out) (Kd.R_base ho88) hb)
                have n3_ := Aside0.mk (Kd.V_elder' (by exact HL283_0.out) (Kd.R_base ho88) hb)
                have n4_ := Aside0.mk (Kd.R_elder' (by exact HO286.out) (Kd.R_base ho88) hb)
                have n5_ := Aside0.mk (Kd.R_lower (Kd.R_new' (Kd.R_new' (Kd.R_newM (M := fun k_ => (w.heap.size ≤ k_)) ho88 (below_size (HB.out)) (fun k_ h_ => h_)) (Kd.R_lt (by exact HO_10.out))) (Kd.R_lt (by exact HO286.out))) (below_size (HB.out)))
                have n6_ := Aside0.mk (blk_below (g := gb241) (o := .cells #[.int .i64 a1_0, .slice A1_1 l1_1.length c1_1, .slice A1_2 l1_2.length c1_2, .slice A1_3 l1_3.length c1_3, .slice A1_4 l1_4.length c1_4, .slice A1_5 l1_5.length c1_5] 33 (0, 0)) (by exact BK241.out) hb)
                have n7_ := Aside0.mk (below_step (HB.out) hb)
                clear HO_7 HO_10 HO_14 HL283_0 HO286 BK241 HB
                have HO_7 := n0_
                have HO_10 := n1_
                have HO_14 := n2_
                have HL283_0 := n3_
                have HO286 := n4_
                have HO290 := n5_
                have BK241 := n6_
                have HB := n7_
                clear n0_ n1_ n2_ n3_ n4_ n5_ n6_ n7_ hb ho88
                refine hK.out _ _ ⟨HS0_, HS1_⟩ (fun hHeld => ?_)
                clear hK K
                refine norm_ (a' := ?_) ?_ ?_
                rotate_left
                ·show Act.put _ (some 130) _ = _
                 simp only [Act.put, List.setIfInBounds_toArray, List.set_cons_zero, List.set_cons_succ, i64_w, i32_w]
                 rfl
                exact norm_ (by simp only [putAll, Act.put, List.setIfInBounds_toArray, List.set_cons_zero, List.set_cons_succ]) (hCont (v281, v285, v289) _ ⟨hHeld, (by exact Kd.V_mono HL283_0.out (fun _ hk => ⟨hk.1.1.1, ⟨hk.1.2, ⟨hk.2, ⟨hk.1.1.2.2.1, ⟨hk.1.1.2.2.2.1, ⟨hk.1.1.2.1, hk.1.1.2.2.2.2⟩⟩⟩⟩⟩⟩)), (by exact Kd.R_mono HO286.out (fun _ hk => ⟨hk.1.1, ⟨hk.2, hk.1.2⟩⟩)), (by exact Kd.R_mono HO290.out (fun _ hk => ⟨hk.1.1.1, ⟨hk.2, hk.1.2⟩⟩)), (by exact Kd.R_mono HO_10.out (fun _ hk => ⟨hk.1.1, ⟨hk.1.2, hk.2⟩⟩)), (by exact Kd.N_mono HO_14.out (fun _ hk => ⟨hk.1.1.1, ⟨hk.1.2, ⟨hk.2, ⟨hk.1.1.2.2.1, ⟨hk.1.1.2.1, hk.1.1.2.2.2⟩⟩⟩⟩⟩)), (by exact Kd.N_mono HO_7.out (fun _ hk => ⟨hk.1.1.1, ⟨hk.1.2, ⟨hk.2, ⟨hk.1.1.2.1, ⟨hk.1.1.2.2.1, hk.1.1.2.2.2⟩⟩⟩⟩⟩)), (by exact BK241.out), (HB.out)⟩)
               refine Kd.R_lit_step (Kd.int .i64) _ 3 ?hg (N := 130) ?hd (xs := ([rd x10_42 x16_4] : List Int)) (inner := [.int .i64 (rd x10_42 x16_4)]) (ok := fun _ => True) (okp := fun _ => True) ?hr ?hp (fun _ hk => hk) trivial (Below.refl _ _) (Nat.le_refl _) (by simp) ?_; (case hd => rfl); (case hg => rfl); (case hr => (go_simp; done)); (case hp => exact (Reps.one (show Kd.M (Kd.int .i64) _ _ _ (rd x10_42 x16_4) [.int .i64 (rd x10_42 x16_4)] from rfl) (Reps.none _ _)))
               intro v289 w86 ho87 hb hg_ hnew_
               have HS0_ := (hb.cell (World.block_lt_of_cell? _ _ (hHeld.1))).trans (hHeld.1)
               have HS1_ := (hb.cell (World.block_lt_of_cell? _ _ (hHeld.2))).trans (hHeld.2)
               clear hg_ hnew_
               (rw [← Ny288.out] at ho87)
               have n0_ := Aside0.mk (Kd.N_elder' (by exact HO_7.out) (Kd.R_base ho87) hb)
               have n1_ := Aside0.mk (Kd.R_elder' (by exact HO_10.out) (Kd.R_base ho87) hb)
               have n2_ := Aside0.mk (Kd.N_elder' (by exact HO_14.out) (Kd.R_base ho87) hb)
               have n3_ := Aside0.mk (Kd.V_elder' (by exact HL283_0.out) (Kd.R_base ho87) hb)
               have n4_ := Aside0.mk (Kd.R_elder' (by exact HO282.out) (Kd.R_base ho87) hb)
               have n5_ := Aside0.mk (Kd.R_lower (Kd.R_new' (Kd.R_new' (Kd.R_newM (M := fun k_ => (w.heap.size ≤ k_)) ho87 (below_size (HB.out)) (fun k_ h_ => h_)) (Kd.R_lt (by exact HO_10.out))) (Kd.R_lt (by exact HO282.out))) (below_size (HB.out)))
               have n6_ := Aside0.mk (blk_below (g := gb241) (o := .cells #[.int .i64 a1_0, .slice A1_1 l1_1.length c1_1, .slice A1_2 l1_2.length c1_2, .slice A1_3 l1_3.length c1_3, .slice A1_4 l1_4.length c1_4, .slice A1_5 l1_5.length c1_5] 33 (0, 0)) (by exact BK241.out) hb)
               have n7_ := Aside0.mk (Kd.C_below (by repeat ((with_reducible exact HR283_0.out))) hb)
               have n8_ := Aside0.mk (below_step (HB.out) hb)
               clear HO_7 HO_10 HO_14 HL283_0 HO282 BK241 HR283_0 HB
               have HO_7 := n0_
               have HO_10 := n1_
               have HO_14 := n2_
               have HL283_0 := n3_
               have HO282 := n4_
               have HO290 := n5_
               have BK241 := n6_
               have HR283_0 := n7_
               have HB := n8_
               clear n0_ n1_ n2_ n3_ n4_ n5_ n6_ n7_ n8_ hb ho87
               refine hK.out _ _ ⟨HS0_, HS1_⟩ (fun hHeld => ?_)
               clear hK K
               refine norm_ (a' := ?_) ?_ ?_
               rotate_left
               ·show Act.put _ (some 130) _ = _
                simp only [Act.put, List.setIfInBounds_toArray, List.set_cons_zero, List.set_cons_succ, i64_w, i32_w]
                rfl
               refine one_ (i := 6) (N := some 125) #[true, true, true, true, true, true, true, true, true, true, true, true, false, false, false, false] rfl rfl (one_of HT_.out (by kernel_rfl)) (by decide) (fun K hK => ?_)
               refine Kd.R_append_rows_step (Kd.int .i64) (w0 := w) w.heap.size (by rfl) (.tmp 120) (.tmp 124) 22 3 (.int .i64 0) 8 rfl Try.underlying22 info3 rfl (by decide) (by omega) v281 y280 (rd_L1 x7_1 x15_3) _ _ _ (fun k_ => (w.heap.size ≤ k_) ∧ some k_ ≠ (.slice (some ad287) x10_42.length co81 : Value).ownBlock ∧ some k_ ≠ (v289 : Value).ownBlock) (fun _ => False) rfl rfl ?aO ?aR (fun _ _ h => h) (fun _ h => h.elim) ?aF ?aB ?aS ?aL ?_
               (case aR => repeat (exact (by repeat (exact HR283_0.out))))
               (case aB => exact (HB.out))
               (case aF => exact (fun k_ hk => ⟨(Nat.le_trans (below_size (HB.out)) hk), Kd.fresh' (Kd.R_lt (by exact HO_10.out)) k_ hk, Kd.fresh' (Kd.R_lt (by exact HO290.out)) k_ hk⟩))
               (case aO => exact (by exact Kd.R_mono HO282.out (fun _ hk => ⟨hk.1.1.1, ⟨hk.1.2, hk.2⟩⟩)))
               (case aS => exact (below_size (HB.out)))
               (case aL => have := LMc77.out; omega)
               intro v285 w88 ho hb hg hat
               have HS0_ := cell_grown hg (by exact hHeld.1) (by rw [add_block]; exact Kd.R_ne HO282.out (Kd.N_typed HO_7.out _ rfl).choose_spec (by decide))
               have HS1_ := cell_grown hg (by exact hHeld.2) (by rw [add_block]; exact fun e_ => (HO282.out.1 _ e_.symm).1.2 rfl)
               rw [← Ny284.out] at ho
               have n0_ := Aside0.mk (Kd.N_afterv (ok := (fun k_ => (w.heap.size ≤ k_) ∧ some k_ ≠ (.slice (some ad287) x10_42.length co81 : Value).ownBlock ∧ some k_ ≠ (.slice Ao82 x14_4.length co82 : Value).ownBlock ∧ some k_ ≠ (v289 : Value).ownBlock ∧ k_ ≠ gb241)) (by exact Kd.N_mono HO_7.out (fun _ hk => ⟨⟨hk.1.1.1, ⟨hk.1.1.2.1, ⟨hk.1.1.2.2.1, ⟨hk.2, hk.1.1.2.2.2⟩⟩⟩⟩, hk.1.2⟩)) hg hat)
               have n1_ := Aside0.mk (Kd.R_after (ok := (fun k_ => (w.heap.size ≤ k_) ∧ some k_ ≠ (v289 : Value).ownBlock)) (by exact Kd.R_mono HO_10.out (fun _ hk => ⟨⟨hk.1.1, hk.2⟩, hk.1.2⟩)) hg hat)
               have n2_ := Aside0.mk (Kd.N_afterv (ok := (fun k_ => (w.heap.size ≤ k_) ∧ some k_ ≠ (.slice (some ad283) x7_1.length co73 : Value).ownBlock ∧ some k_ ≠ (.slice (some ad287) x10_42.length co81 : Value).ownBlock ∧ some k_ ≠ (v289 : Value).ownBlock ∧ k_ ≠ gb241)) (by exact Kd.N_mono HO_14.out (fun _ hk => ⟨⟨hk.1.1.1, ⟨hk.1.1.2.1, ⟨hk.1.1.2.2.1, ⟨hk.2, hk.1.1.2.2.2⟩⟩⟩⟩, hk.1.2⟩)) hg hat)
               have n3_ := Aside0.mk (blk_grown (g := gb241) (o := .cells #[.int .i64 a1_0, .slice A1_1 l1_1.length c1_1, .slice A1_2 l1_2.length c1_2, .slice A1_3 l1_3.length c1_3, .slice A1_4 l1_4.length c1_4, .slice A1_5 l1_5.length c1_5] 33 (0, 0)) (by exact BK241.out) hg (Kd.R_ne HO282.out BK241.out (by decide)))
               have n4_ := Aside0.mk (Kd.V_afterv (ok := (fun k_ => (w.heap.size ≤ k_) ∧ some k_ ≠ (.slice (some ad283) x7_1.length co73 : Value).ownBlock ∧ some k_ ≠ (.slice (some ad287) x10_42.length co81 : Value).ownBlock ∧ some k_ ≠ (.slice Ao82 x14_4.length co82 : Value).ownBlock ∧ some k_ ≠ (v289 : Value).ownBlock ∧ k_ ≠ gb241)) (by exact Kd.V_mono HL283_0.out (fun _ hk => ⟨⟨hk.1.1.1.1, ⟨hk.1.1.2, ⟨hk.1.1.1.2.1, ⟨hk.1.1.1.2.2.1, ⟨hk.2, hk.1.1.1.2.2.2⟩⟩⟩⟩⟩, hk.1.2⟩)) hg hat)
               have n5_ := Aside0.mk (Kd.R_after (ok := (fun k_ => (w.heap.size ≤ k_) ∧ some k_ ≠ (.slice (some ad287) x10_42.length co81 : Value).ownBlock)) (by exact Kd.R_mono HO290.out (fun _ hk => ⟨⟨hk.1.1.1, hk.1.2⟩, hk.2⟩)) hg hat)
               have n6_ := Aside0.mk (hb)
               have n7_ := Aside0.mk (ho)
               clear HO_7 HO_10 HO_14 BK241 HL283_0 HO290 HB HO282
               have HO_7 := n0_
               have HO_10 := n1_
               have HO_14 := n2_
               have BK241 := n3_
               have HL283_0 := n4_
               have HO290 := n5_
               have HB := n6_
               have HO286 := n7_
               clear n0_ n1_ n2_ n3_ n4_ n5_ n6_ n7_ ho hb hg hat
               refine hK.out _ _ ⟨HS0_, HS1_⟩ (fun hHeld => ?_)
               clear hK K
               refine norm_ (a' := ?_) ?_ ?_
               rotate_left
               ·show Act.put _ (some 125) _ = _
                simp only [Act.put, List.setIfInBounds_toArray, List.set_cons_zero, List.set_cons_succ, i64_w, i32_w]
                rfl
               exact norm_ (by simp only [putAll, Act.put, List.setIfInBounds_toArray, List.set_cons_zero, List.set_cons_succ]) (hCont (v281, v285, v289) _ ⟨hHeld, (by exact Kd.V_mono HL283_0.out (fun _ hk => ⟨hk.1.1, ⟨hk.2, ⟨hk.1.2.2.2.2.1, ⟨hk.1.2.2.1, ⟨hk.1.2.2.2.1, ⟨hk.1.2.1, hk.1.2.2.2.2.2⟩⟩⟩⟩⟩⟩)), (by exact Kd.R_mono HO286.out (fun _ hk => ⟨hk.1, ⟨hk.2.2, hk.2.1⟩⟩)), (by exact Kd.R_mono HO290.out (fun _ hk => ⟨hk.1.1, ⟨hk.2, hk.1.2⟩⟩)), (by exact Kd.R_mono HO_10.out (fun _ hk => ⟨hk.1.1, ⟨hk.2, hk.1.2⟩⟩)), (by exact Kd.N_mono HO_14.out (fun _ hk => ⟨hk.1.1, ⟨hk.2, ⟨hk.1.2.2.2.1, ⟨hk.1.2.2.1, ⟨hk.1.2.1, hk.1.2.2.2.2⟩⟩⟩⟩⟩)), (by exact Kd.N_mono HO_7.out (fun _ hk => ⟨hk.1.1, ⟨hk.2, ⟨hk.1.2.2.2.1, ⟨hk.1.2.1, ⟨hk.1.2.2.1, hk.1.2.2.2.2⟩⟩⟩⟩⟩)), (by exact BK241.out), (HB.out)⟩)
              refine Kd.R_lit_step (Kd.int .i64) _ 3 ?hg (N := 130) ?hd (xs := ([rd x10_42 x16_4] : List Int)) (inner := [.int .i64 (rd x10_42 x16_4)]) (ok := fun _ => True) (okp := fun _ => True) ?hr ?hp (fun _ hk => hk) trivial (Below.refl _ _) (Nat.le_refl _) (by simp) ?_; (case hd => rfl); (case hg => rfl); (case hr => (go_simp; done)); (case hp => exact (Reps.one (show Kd.M (Kd.int .i64) _ _ _ (rd x10_42 x16_4) [.int .i64 (rd x10_42 x16_4)] from rfl) (Reps.none _ _)))
              intro v289 w84 ho85 hb hg_ hnew_
              have HS0_ := (hb.cell (World.block_lt_of_cell? _ _ (hHeld.1))).trans (hHeld.1)
              have HS1_ := (hb.cell (World.block_lt_of_cell? _ _ (hHeld.2))).trans (hHeld.2)
              clear hg_ hnew_
              (rw [← Ny288.out] at ho85)
              have n0_ := Aside0.mk (Kd.N_elder' (by exact HO_7.out) (Kd.R_base ho85) hb)
              have n1_ := Aside0.mk (Kd.R_elder' (by exact HO_10.out) (Kd.R_base ho85) hb)
              have n2_ := Aside0.mk (Kd.N_elder' (by exact HO_14.out) (Kd.R_base ho85) hb)
              have n3_ := Aside0.mk (Kd.V_elder' (by exact HL283_0.out) (Kd.R_base ho85) hb)
              have n4_ := Aside0.mk (Kd.R_lower (Kd.R_new' (Kd.R_newM (M := fun k_ => (w.heap.size ≤ k_)) ho85 (below_size (HB.out)) (fun k_ h_ => h_)) (Kd.R_lt (by exact HO_10.out))) (below_size (HB.out)))
              have n5_ := Aside0.mk (blk_below (g := gb241) (o := .cells #[.int .i64 a1_0, .slice A1_1 l1_1.length c1_1, .slice A1_2 l1_2.length c1_2, .slice A1_3 l1_3.length c1_3, .slice A1_4 l1_4.length c1_4, .slice A1_5 l1_5.length c1_5] 33 (0, 0)) (by exact BK241.out) hb)
              have n6_ := Aside0.mk (Kd.C_below (by repeat ((with_reducible exact HR283_0.out))) hb)
              have n7_ := Aside0.mk (below_step (HB.out) hb)
              clear HO_7 HO_10 HO_14 HL283_0 BK241 HR283_0 HB
              have HO_7 := n0_
              have HO_10 := n1_
              have HO_14 := n2_
              have HL283_0 := n3_
              have HO290 := n4_
              have BK241 := n5_
              have HR283_0 := n6_
              have HB := n7_
              clear n0_ n1_ n2_ n3_ n4_ n5_ n6_ n7_ hb ho85
              refine hK.out _ _ ⟨HS0_, HS1_⟩ (fun hHeld => ?_)
              clear hK K
              refine norm_ (a' := ?_) ?_ ?_
              rotate_left
              ·show Act.put _ (some 130) _ = _
               simp only [Act.put, List.setIfInBounds_toArray, List.set_cons_zero, List.set_cons_succ, i64_w, i32_w]
               rfl
              refine one_ (i := 1) (N := some 120) #[true, true, true, true, true, true, false, true, true, true, true, true, false, false, false, false] rfl rfl (one_of HT_.out (by kernel_rfl)) (by decide) (fun K hK => ?_)
              refine Kd.R_lit_step (Kd.int .i64) _ 3 ?hg (N := 120) ?hd (xs := ([] : List Int)) (inner := []) (ok := fun _ => True) (okp := fun _ => True) ?hr ?hp (fun _ hk => hk) trivial (Below.refl _ _) (Nat.le_refl _) (by simp) ?_; (case hd => rfl); (case hg => rfl); (case hr => (go_simp; done)); (case hp => exact (Reps.none _ _))
              intro v281 w86 ho87 hb hg_ hnew_
              have HS0_ := (hb.cell (World.block_lt_of_cell? _ _ (hHeld.1))).trans (hHeld.1)
              have HS1_ := (hb.cell (World.block_lt_of_cell? _ _ (hHeld.2))).trans (hHeld.2)
              clear hg_ hnew_
              (rw [← Ny280.out] at ho87)
              have n0_ := Aside0.mk (Kd.N_elder' (by exact HO_7.out) (Kd.R_base ho87) hb)
              have n1_ := Aside0.mk (Kd.R_elder' (by exact HO_10.out) (Kd.R_base ho87) hb)
              have n2_ := Aside0.mk (Kd.N_elder' (by exact HO_14.out) (Kd.R_base ho87) hb)
              have n3_ := Aside0.mk (Kd.V_elder' (by exact HL283_0.out) (Kd.R_base ho87) hb)
              have n4_ := Aside0.mk (Kd.R_elder' (by exact HO290.out) (Kd.R_base ho87) hb)
              have n5_ := Aside0.mk (Kd.R_lower (Kd.R_new' (Kd.R_new' (Kd.R_newM (M := fun k_ => (w.heap.size ≤ k_)) ho87 (below_size (HB.out)) (fun k_ h_ => h_)) (Kd.R_lt (by exact HO_10.out))) (Kd.R_lt (by exact HO290.out))) (below_size (HB.out)))
              have n6_ := Aside0.mk (blk_below (g := gb241) (o := .cells #[.int .i64 a1_0, .slice A1_1 l1_1.length c1_1, .slice A1_2 l1_2.length c1_2, .slice A1_3 l1_3.length c1_3, .slice A1_4 l1_4.length c1_4, .slice A1_5 l1_5.length c1_5] 33 (0, 0)) (by exact BK241.out) hb)
              have n7_ := Aside0.mk (Kd.C_below (by repeat ((with_reducible exact HR283_0.out))) hb)
              have n8_ := Aside0.mk (below_step (HB.out) hb)
              clear HO_7 HO_10 HO_14 HL283_0 HO290 BK241 HR283_0 HB
              have HO_7 := n0_
              have HO_10 := n1_
              have HO_14 := n2_
              have HL283_0 := n3_
              have HO290 := n4_
              have HO282 := n5_
              have BK241 := n6_
              have HR283_0 := n7_
              have HB := n8_
              clear n0_ n1_ n2_ n3_ n4_ n5_ n6_ n7_ n8_ hb ho87
              refine hK.out _ _ ⟨HS0_, HS1_⟩ (fun hHeld => ?_)
              clear hK K
              refine norm_ (a' := ?_) ?_ ?_
              rotate_left
              ·show Act.put _ (some 120) _ = _
               simp only [Act.put, List.setIfInBounds_toArray, List.set_cons_zero, List.set_cons_succ, i64_w, i32_w]
               rfl
              refine one_ (i := 6) (N := some 125) #[true, true, true, true, true, true, true, true, true, true, true, true, false, false, false, false] rfl rfl (one_of HT_.out (by kernel_rfl)) (by decide) (fun K hK => ?_)
              refine Kd.R_append_rows_step (Kd.int .i64) (w0 := w) w.heap.size (by rfl) (.tmp 120) (.tmp 124) 22 3 (.int .i64 0) 8 rfl Try.underlying22 info3 rfl (by decide) (by omega) v281 y280 (rd_L1 x7_1 x15_3) _ _ _ (fun k_ => (w.heap.size ≤ k_) ∧ some k_ ≠ (.slice (some ad287) x10_42.length co81 : Value).ownBlock ∧ some k_ ≠ (v289 : Value).ownBlock) (fun _ => False) rfl rfl ?aO ?aR (fun _ _ h => h) (fun _ h => h.elim) ?aF ?aB ?aS ?aL ?_
              (case aR => repeat (exact (by repeat (exact HR283_0.out))))
              (case aB => exact (HB.out))
              (case aF => exact (fun k_ hk => ⟨(Nat.le_trans (below_size (HB.out)) hk), Kd.fresh' (Kd.R_lt (by exact HO_10.out)) k_ hk, Kd.fresh' (Kd.R_lt (by exact HO290.out)) k_ hk⟩))
              (case aO => exact (by exact Kd.R_mono HO282.out (fun _ hk => ⟨hk.1.1.1, ⟨hk.1.2, hk.2⟩⟩)))
              (case aS => exact (below_size (HB.out)))
              (case aL => have := LMc77.out; omega)
              intro v285 w88 ho hb hg hat
              have HS0_ := cell_grown hg (by exact hHeld.1) (by rw [add_block]; exact Kd.R_ne HO282.out (Kd.N_typed HO_7.out _ rfl).choose_spec (by decide))
              have HS1_ := cell_grown hg (by exact hHeld.2) (by rw [add_block]; exact fun e_ => (HO282.out.1 _ e_.symm).1.2 rfl)
              rw [← Ny284.out] at ho
              have n0_ := Aside0.mk (Kd.N_afterv (ok := (fun k_ => (w.heap.size ≤ k_) ∧ some k_ ≠ (.slice (some ad287) x10_42.length co81 : Value).ownBlock ∧ some k_ ≠ (.slice Ao82 x14_4.length co82 : Value).ownBlock ∧ some k_ ≠ (v289 : Value).ownBlock ∧ k_ ≠ gb241)) (by exact Kd.N_mono HO_7.out (fun _ hk => ⟨⟨hk.1.1.1, ⟨hk.1.1.2.1, ⟨hk.1.1.2.2.1, ⟨hk.1.2, hk.1.1.2.2.2⟩⟩⟩⟩, hk.2⟩)) hg hat)
              have n1_ := Aside0.mk (Kd.R_after (ok := (fun k_ => (w.heap.size ≤ k_) ∧ some k_ ≠ (v289 : Value).ownBlock)) (by exact HO_10.out) hg hat)
              have n2_ := Aside0.mk (Kd.N_afterv (ok := (fun k_ => (w.heap.size ≤ k_) ∧ some k_ ≠ (.slice (some ad283) x7_1.length co73 : Value).ownBlock ∧ some k_ ≠ (.slice (some ad287) x10_42.length co81 : Value).ownBlock ∧ some k_ ≠ (v289 : Value).ownBlock ∧ k_ ≠ gb241)) (by exact Kd.N_mono HO_14.out (fun _ hk => ⟨⟨hk.1.1.1, ⟨hk.1.1.2.1, ⟨hk.1.1.2.2.1, ⟨hk.1.2, hk.1.1.2.2.2⟩⟩⟩⟩, hk.2⟩)) hg hat)
              have n3_ := Aside0.mk (blk_grown (g := gb241) (o := .cells #[.int .i64 a1_0, .slice A1_1 l1_1.length c1_1, .slice A1_2 l1_2.length c1_2, .slice A1_3 l1_3.length c1_3, .slice A1_4 l1_4.length c1_4, .slice A1_5 l1_5.length c1_5] 33 (0, 0)) (by exact BK241.out) hg (Kd.R_ne HO282.out BK241.out (by decide)))
              have n4_ := Aside0.mk (Kd.V_afterv (ok := (fun k_ => (w.heap.size ≤ k_) ∧ some k_ ≠ (.slice (some ad283) x7_1.length co73 : Value).ownBlock ∧ some k_ ≠ (.slice (some ad287) x10_42.length co81 : Value).ownBlock ∧ some k_ ≠ (.slice Ao82 x14_4.length co82 : Value).ownBlock ∧ some k_ ≠ (v289 : Value).ownBlock ∧ k_ ≠ gb241)) (by exact Kd.V_mono HL283_0.out (fun _ hk => ⟨⟨hk.1.1.1.1, ⟨hk.1.1.2, ⟨hk.1.1.1.2.1, ⟨hk.1.1.1.2.2.1, ⟨hk.1.2, hk.1.1.1.2.2.2⟩⟩⟩⟩⟩, hk.2⟩)) hg hat)
              have n5_ := Aside0.mk (Kd.R_after (ok := (fun k_ => (w.heap.size ≤ k_) ∧ some k_ ≠ (.slice (some ad287) x10_42.length co81 : Value).ownBlock)) (by exact Kd.R_mono HO290.out (fun _ hk => ⟨⟨hk.1.1.1, hk.1.2⟩, hk.2⟩)) hg hat)
              have n6_ := Aside0.mk (hb)
              have n7_ := Aside0.mk (ho)
              clear HO_7 HO_10 HO_14 BK241 HL283_0 HO290 HB HO282
              have HO_7 := n0_
              have HO_10 := n1_
              have HO_14 := n2_
              have BK241 := n3_
              have HL283_0 := n4_
              have HO290 := n5_
              have HB := n6_
              have HO286 := n7_
              clear n0_ n1_ n2_ n3_ n4_ n5_ n6_ n7_ ho hb hg hat
              refine hK.out _ _ ⟨HS0_, HS1_⟩ (fun hHeld => ?_)
              clear hK K
              refine norm_ (a' := ?_) ?_ ?_
              rotate_left
              ·show Act.put _ (some 125) _ = _
               simp only [Act.put, List.setIfInBounds_toArray, List.set_cons_zero, List.set_cons_succ, i64_w, i32_w]
               rfl
              exact norm_ (by simp only [putAll, Act.put, List.setIfInBounds_toArray, List.set_cons_zero, List.set_cons_succ]) (hCont (v281, v285, v289) _ ⟨hHeld, (by exact Kd.V_mono HL283_0.out (fun _ hk => ⟨hk.1.1, ⟨hk.2, ⟨hk.1.2.2.2.2.1, ⟨hk.1.2.2.1, ⟨hk.1.2.2.2.1, ⟨hk.1.2.1, hk.1.2.2.2.2.2⟩⟩⟩⟩⟩⟩)), (by exact Kd.R_mono HO286.out (fun _ hk => ⟨hk.1, ⟨hk.2.2, hk.2.1⟩⟩)), (by exact Kd.R_mono HO290.out (fun _ hk => ⟨hk.1.1, ⟨hk.2, hk.1.2⟩⟩)), (by exact Kd.R_mono HO_10.out (fun _ hk => ⟨hk.1.1, ⟨hk.2, hk.1.2⟩⟩)), (by exact Kd.N_mono HO_14.out (fun _ hk => ⟨hk.1.1, ⟨hk.2, ⟨hk.1.2.2.2.1, ⟨hk.1.2.2.1, ⟨hk.1.2.1, hk.1.2.2.2.2⟩⟩⟩⟩⟩)), (by exact Kd.N_mono HO_7.out (fun _ hk => ⟨hk.1.1, ⟨hk.2, ⟨hk.1.2.2.2.1, ⟨hk.1.2.1, ⟨hk.1.2.2.1, hk.1.2.2.2.2⟩⟩⟩⟩⟩)), (by exact BK241.out), (HB.out)⟩)
             rintro ⟨v281, v285, v289⟩ w89 ⟨hS_, h0_, h1_, h2_, h3_, h4_, h5_, h6_, h7_⟩
             have n0_ : Aside0 (Kd.V (Kd.int .i64) 3 w89 w.heap.size (fun k_ => (w.heap.size ≤ k_) ∧ some k_ ≠ (v285 : Value).ownBlock ∧ some k_ ≠ (v289 : Value).ownBlock ∧ some k_ ≠ (.slice (some ad287) x10_42.length co81 : Value).ownBlock ∧ some k_ ≠ (.slice Ao82 x14_4.length co82 : Value).ownBlock ∧ some k_ ≠ (.slice (some ad283) x7_1.length co73 : Value).ownBlock ∧ k_ ≠ gb241) (.slice A283_0 (rd_L1 x7_1 x15_3).length c283_0) (rd_L1 x7_1 x15_3)) := ⟨h0_⟩
             have n1_ : Aside0 (Kd.R (Kd.int .i64) 3 w89 w.heap.size (fun k_ => (w.heap.size ≤ k_) ∧ some k_ ≠ (v289 : Value).ownBlock ∧ some k_ ≠ (.slice (some ad287) x10_42.length co81 : Value).ownBlock) v285 y284) := ⟨h1_⟩
             have n2_ : Aside0 (Kd.R (Kd.int .i64) 3 w89 w.heap.size (fun k_ => (w.heap.size ≤ k_) ∧ some k_ ≠ (v285 : Value).ownBlock ∧ some k_ ≠ (.slice (some ad287) x10_42.length co81 : Value).ownBlock) v289 y288) := ⟨h2_⟩
             have n3_ : Aside0 (Kd.R (Kd.int .i64) 3 w89 w.heap.size (fun k_ => (w.heap.size ≤ k_) ∧ some k_ ≠ (v285 : Value).ownBlock ∧ some k_ ≠ (v289 : Value).ownBlock) (.slice (some ad287) x10_42.length co81) x10_42) := ⟨h3_⟩
             have n4_ : Aside0 (Kd.N (Kd.slice 3 (Kd.int .i64)) 22 w89 w.heap.size (fun k_ => (w.heap.size ≤ k_) ∧ some k_ ≠ (v285 : Value).ownBlock ∧ some k_ ≠ (v289 : Value).ownBlock ∧ some k_ ≠ (.slice (some ad287) x10_42.length co81 : Value).ownBlock ∧ some k_ ≠ (.slice (some ad283) x7_1.length co73 : Value).ownBlock ∧ k_ ≠ gb241) (.slice Ao82 x14_4.length co82) x14_4) := ⟨h4_⟩
             have n5_ : Aside0 (Kd.N (Kd.slice 3 (Kd.int .i64)) 22 w89 w.heap.size (fun k_ => (w.heap.size ≤ k_) ∧ some k_ ≠ (v285 : Value).ownBlock ∧ some k_ ≠ (v289 : Value).ownBlock ∧ some k_ ≠ (.slice (some ad287) x10_42.length co81 : Value).ownBlock ∧ some k_ ≠ (.slice Ao82 x14_4.length co82 : Value).ownBlock ∧ k_ ≠ gb241) (.slice (some ad283) x7_1.length co73) x7_1) := ⟨h5_⟩
             have n6_ : Aside0 (w89.heap[gb241]? = some (.cells #[.int .i64 a1_0, .slice A1_1 l1_1.length c1_1, .slice A1_2 l1_2.length c1_2, .slice A1_3 l1_3.length c1_3, .slice A1_4 l1_4.length c1_4, .slice A1_5 l1_5.length c1_5] 33 (0, 0))) := ⟨h6_⟩
             have n7_ : Aside0 (Below w.heap.size w w89) := ⟨h7_⟩
             clear HO_7 HO_10 HO_14 BK241 HB h0_ h1_ h2_ h3_ h4_ h5_ h6_ h7_
             have HL283_0 := n0_
             have HO286 := n1_
             have HO290 := n2_
             have HO_10 := n3_
             have HO_14 := n4_
             have HO_7 := n5_
             have BK241 := n6_
             have HB := n7_
             clear n0_ n1_ n2_ n3_ n4_ n5_ n6_ n7_
             have hHeld : w89.cell? (ad283.add (x15_3).toNat) = some (.slice A283_0 (rd_L1 x7_1 x15_3).length c283_0) ∧ w89.cell? (ad287.add (x16_4).toNat) = some (.int .i64 (rd x10_42 x16_4)) := hS_
             obtain ⟨Ao91, co91, eo91⟩ := Kd.R_slice HO290.out
             (subst eo91)
             refine norm_ (a' := ?_) ?_ ?_
             rotate_left
             ·simp only [putAll, Act.put, List.setIfInBounds_toArray, List.set_cons_zero, List.set_cons_succ]
              rfl
             refine one_ (i := 12) (N := some 131) #[true, true, true, true, true, true, true, true, true, true, true, true, true, false, false, false] rfl rfl (one_of HT_.out (by kernel_rfl)) (by decide) (fun K hK => ?_)
             refine Kd.R_append_rows_step (Kd.int .i64) (w0 := w) w.heap.size (by rfl) (.tmp 125) (.tmp 130) 22 3 (.int .i64 0) 8 rfl Try.underlying22 info3 rfl (by decide) (by omega) v285 y284 y288 _ _ _ (fun k_ => (w.heap.size ≤ k_) ∧ some k_ ≠ (.slice (some ad287) x10_42.length co81 : Value).ownBlock ∧ some k_ ≠ (.slice Ao91 y288.length co91 : Value).ownBlock) (fun _ => False) rfl rfl ?aO ?aR (fun _ _ h => h) (fun _ h => h.elim) ?aF ?aB ?aS ?aL ?_
             (case aR => repeat (exact (Kd.R_reads' HO290.out).2.2))
             (case aB => exact (HB.out))
             (case aF => exact (fun k_ hk => ⟨(Nat.le_trans (below_size (HB.out)) hk), Kd.fresh' (Kd.R_lt (by exact HO_10.out)) k_ hk, Kd.fresh' (Kd.R_lt (by exact HO290.out)) k_ hk⟩))
             (case aO => exact (by exact Kd.R_mono HO286.out (fun _ hk => ⟨hk.1, ⟨hk.2.2, hk.2.1⟩⟩)))
             (case aS => exact (below_size (HB.out)))
             (case aL => have := LMc79.out; omega)
             intro v292 w90 ho hb hg hat
             have HS0_ := cell_grown hg (by exact hHeld.1) (by rw [add_block]; exact Kd.R_ne HO286.out (Kd.N_typed HO_7.out _ rfl).choose_spec (by decide))
             have HS1_ := cell_grown hg (by exact hHeld.2) (by rw [add_block]; exact fun e_ => (HO286.out.1 _ e_.symm).2.2 rfl)
             rw [← Ny291.out] at ho
             have n0_ := Aside0.mk (Kd.N_afterv (ok := (fun k_ => (w.heap.size ≤ k_) ∧ some k_ ≠ (.slice (some ad287) x10_42.length co81 : Value).ownBlock ∧ some k_ ≠ (.slice Ao82 x14_4.length co82 : Value).ownBlock ∧ some k_ ≠ (.slice Ao91 y288.length co91 : Value).ownBlock ∧ k_ ≠ gb241)) (by exact Kd.N_mono HO_7.out (fun _ hk => ⟨⟨hk.1, ⟨hk.2.2.2.1, ⟨hk.2.2.2.2.1, ⟨hk.2.2.1, hk.2.2.2.2.2⟩⟩⟩⟩, hk.2.1⟩)) hg hat)
             have n1_ := Aside0.mk (Kd.R_after (ok := (fun k_ => (w.heap.size ≤ k_) ∧ some k_ ≠ (.slice Ao91 y288.length co91 : Value).ownBlock)) (by exact Kd.R_mono HO_10.out (fun _ hk => ⟨⟨hk.1, hk.2.2⟩, hk.2.1⟩)) hg hat)
             have n2_ := Aside0.mk (Kd.N_afterv (ok := (fun k_ => (w.heap.size ≤ k_) ∧ some k_ ≠ (.slice (some ad283) x7_1.length co73 : Value).ownBlock ∧ some k_ ≠ (.slice (some ad287) x10_42.length co81 : Value).ownBlock ∧ some k_ ≠ (.slice Ao91 y288.length co91 : Value).ownBlock ∧ k_ ≠ gb241)) (by exact Kd.N_mono HO_14.out (fun _ hk => ⟨⟨hk.1, ⟨hk.2.2.2.2.1, ⟨hk.2.2.2.1, ⟨hk.2.2.1, hk.2.2.2.2.2⟩⟩⟩⟩, hk.2.1⟩)) hg hat)
             have n3_ := Aside0.mk (blk_grown (g := gb241) (o := .cells #[.int .i64 a1_0, .slice A1_1 l1_1.length c1_1, .slice A1_2 l1_2.length c1_2, .slice A1_3 l1_3.length c1_3, .slice A1_4 l1_4.length c1_4, .slice A1_5 l1_5.length c1_5] 33 (0, 0)) (by exact BK241.out) hg (Kd.R_ne HO286.out BK241.out (by decide)))
             have n4_ := Aside0.mk (Kd.V_afterv (ok := (fun k_ => (w.heap.size ≤ k_) ∧ some k_ ≠ (.slice (some ad283) x7_1.length co73 : Value).ownBlock ∧ some k_ ≠ (.slice (some ad287) x10_42.length co81 : Value).ownBlock ∧ some k_ ≠ (.slice Ao82 x14_4.length co82 : Value).ownBlock ∧ some k_ ≠ (.slice Ao91 y288.length co91 : Value).ownBlock ∧ k_ ≠ gb241)) (by exact Kd.V_mono HL283_0.out (fun _ hk => ⟨⟨hk.1, ⟨hk.2.2.2.2.2.1, ⟨hk.2.2.2.1, ⟨hk.2.2.2.2.1, ⟨hk.2.2.1, hk.2.2.2.2.2.2⟩⟩⟩⟩⟩, hk.2.1⟩)) hg hat)
             have n5_ := Aside0.mk (Kd.R_after (ok := (fun k_ => (w.heap.size ≤ k_) ∧ some k_ ≠ (.slice (some ad287) x10_42.length co81 : Value).ownBlock)) (by exact Kd.R_mono HO290.out (fun _ hk => ⟨⟨hk.1, hk.2.2⟩, hk.2.1⟩)) hg hat)
             have n6_ := Aside0.mk (hb)
             have n7_ := Aside0.mk (ho)
             clear HO_7 HO_10 HO_14 BK241 HL283_0 HO290 HB HO286
             have HO_7 := n0_
             have HO_10 := n1_
             have HO_14 := n2_
             have BK241 := n3_
             have HL283_0 := n4_
             have HO290 := n5_
             have HB := n6_
             have HO293 := n7_
             clear n0_ n1_ n2_ n3_ n4_ n5_ n6_ n7_ ho hb hg hat
             obtain ⟨Ao92, co92, eo92⟩ := Kd.R_slice HO293.out
             (subst eo92)
             refine hK.out _ _ ⟨HS0_, HS1_⟩ (fun hHeld => ?_)
             clear hK K
             refine norm_ (a' := ?_) ?_ ?_
             rotate_left
             ·show Act.put _ (some 131) _ = _
              simp only [Act.put, List.setIfInBounds_toArray, List.set_cons_zero, List.set_cons_succ, i64_w, i32_w]
              rfl
             refine one_ (i := 13) (N := some 132) #[true, true, true, true, true, true, true, true, true, true, true, true, true, true, false, false] rfl rfl (one_of HT_.out (by kernel_rfl)) (by decide) (fun K hK => ?_)
             refine Kd.N_lit_step (Kd.slice 3 (Kd.int .i64)) _ 22 ?hg (N' := 132) ?hd (xs := ([y291] : List (List Int))) (inner := [.slice Ao92 y291.length co92]) (ok := (fun k_ => (w.heap.size ≤ k_) ∧ some k_ ≠ (.slice (some ad283) x7_1.length co73 : Value).ownBlock ∧ some k_ ≠ (.slice (some ad287) x10_42.length co81 : Value).ownBlock ∧ some k_ ≠ (.slice Ao82 x14_4.length co82 : Value).ownBlock ∧ some k_ ≠ (.slice Ao91 y288.length co91 : Value).ownBlock ∧ k_ ≠ gb241)) (okp := (fun k_ => (w.heap.size ≤ k_) ∧ some k_ ≠ (.slice (some ad283) x7_1.length co73 : Value).ownBlock ∧ some k_ ≠ (.slice (some ad287) x10_42.length co81 : Value).ownBlock ∧ some k_ ≠ (.slice Ao82 x14_4.length co82 : Value).ownBlock ∧ some k_ ≠ (.slice Ao91 y288.length co91 : Value).ownBlock ∧ k_ ≠ gb241)) ?hr ?hp (fun _ hk => hk) ((show ∀ k_, w90.heap.size ≤ k_ → (fun k_ => (w.heap.size ≤ k_) ∧ some k_ ≠ (.slice (some ad283) x7_1.length co73 : Value).ownBlock ∧ some k_ ≠ (.slice (some ad287) x10_42.length co81 : Value).ownBlock ∧ some k_ ≠ (.slice Ao82 x14_4.length co82 : Value).ownBlock ∧ some k_ ≠ (.slice Ao91 y288.length co91 : Value).ownBlock ∧ k_ ≠ gb241) k_ from fun k_ hk => ⟨(Nat.le_trans (below_size (HB.out)) hk), Kd.fresh' (Kd.N_lt (by exact HO_7.out)) k_ hk, Kd.fresh' (Kd.R_lt (by exact HO_10.out)) k_ hk, Kd.fresh' (Kd.N_lt (by exact HO_14.out)) k_ hk, Kd.fresh' (Kd.R_lt (by exact HO290.out)) k_ hk, Kd.freshB (g := gb241) (o := .cells #[.int .i64 a1_0, .slice A1_1 l1_1.length c1_1, .slice A1_2 l1_2.length c1_2, .slice A1_3 l1_3.length c1_3, .slice A1_4 l1_4.length c1_4, .slice A1_5 l1_5.length c1_5] 33 (0, 0)) (by exact BK241.out) k_ hk⟩) _ (Nat.le_refl _)) (Below.refl _ _) (Nat.le_refl _) (by simp) ?_; (case hd => rfl); (case hg => rfl); (case hr => (go_simp; done)); (case hp => exact (Reps.one (show Kd.FK (Kd.slice 3 (Kd.int .i64)) _ _ y291 [.slice Ao92 y291.length co92] from (Kd.FK_slice_mk (Kd.R_reads' (Kd.R_mono (ok' := (fun k_ => (w.heap.size ≤ k_) ∧ some k_ ≠ (.slice (some ad283) x7_1.length co73 : Value).ownBlock ∧ some k_ ≠ (.slice (some ad287) x10_42.length co81 : Value).ownBlock ∧ some k_ ≠ (.slice Ao82 x14_4.length co82 : Value).ownBlock ∧ some k_ ≠ (.slice Ao91 y288.length co91 : Value).ownBlock ∧ k_ ≠ gb241)) (Kd.R_types (Kd.R_apart' (Kd.R_apart' (HO293.out) (Kd.N_typed HO_7.out) (by decide)) (Kd.N_typed HO_14.out) (by decide)) BK241.out (by decide)) (fun k_ hk => ⟨hk.1.1.1.1, ⟨hk.1.1.2, ⟨hk.1.1.1.2.1, ⟨hk.1.2, ⟨hk.1.1.1.2.2, hk.2⟩⟩⟩⟩⟩))).2.1 (Kd.R_F (Kd.R_mono (ok' := (fun k_ => (w.heap.size ≤ k_) ∧ some k_ ≠ (.slice (some ad283) x7_1.length co73 : Value).ownBlock ∧ some k_ ≠ (.slice (some ad287) x10_42.length co81 : Value).ownBlock ∧ some k_ ≠ (.slice Ao82 x14_4.length co82 : Value).ownBlock ∧ some k_ ≠ (.slice Ao91 y288.length co91 : Value).ownBlock ∧ k_ ≠ gb241)) (Kd.R_types (Kd.R_apart' (Kd.R_apart' (HO293.out) (Kd.N_typed HO_7.out) (by decide)) (Kd.N_typed HO_14.out) (by decide)) BK241.out (by decide)) (fun k_ hk => ⟨hk.1.1.1.1, ⟨hk.1.1.2, ⟨hk.1.1.1.2.1, ⟨hk.1.2, ⟨hk.1.1.1.2.2, hk.2⟩⟩⟩⟩⟩))))) (Reps.none _ _)))
             intro v295 w93 ho94 hb hg_ hnew_
             have HS0_ := (hb.cell (World.block_lt_of_cell? _ _ (hHeld.1))).trans (hHeld.1)
             have HS1_ := (hb.cell (World.block_lt_of_cell? _ _ (hHeld.2))).trans (hHeld.2)
             clear hg_ hnew_
             (rw [← Ny294.out] at ho94)
             have n0_ := Aside0.mk (Kd.N_elder' (by exact HO_7.out) (Kd.N_base ho94) hb)
             have n1_ := Aside0.mk (Kd.R_below (by exact HO_10.out) hb)
             have n2_ := Aside0.mk (Kd.N_elder' (by exact HO_14.out) (Kd.N_base ho94) hb)
             have n3_ := Aside0.mk (Kd.V_elder' (by exact HL283_0.out) (Kd.N_base ho94) hb)
             have n4_ := Aside0.mk (Kd.R_below (by exact HO290.out) hb)
             have n5_ := Aside0.mk (Kd.N_lower ho94 (below_size (HB.out)))
             have n6_ := Aside0.mk (blk_below (g := gb241) (o := .cells #[.int .i64 a1_0, .slice A1_1 l1_1.length c1_1, .slice A1_2 l1_2.length c1_2, .slice A1_3 l1_3.length c1_3, .slice A1_4 l1_4.length c1_4, .slice A1_5 l1_5.length c1_5] 33 (0, 0)) (by exact BK241.out) hb)
             have n7_ := Aside0.mk (below_step (HB.out) hb)
             clear HO_7 HO_10 HO_14 HL283_0 HO290 BK241 HB HO293
             have HO_7 := n0_
             have HO_10 := n1_
             have HO_14 := n2_
             have HL283_0 := n3_
             have HO290 := n4_
             have HO296 := n5_
             have BK241 := n6_
             have HB := n7_
             clear n0_ n1_ n2_ n3_ n4_ n5_ n6_ n7_ hb ho94
             obtain ⟨Ao96, co96, eo96⟩ := Kd.N_slice HO296.out
             (subst eo96)
             refine hK.out _ _ ⟨HS0_, HS1_⟩ (fun hHeld => ?_)
             clear hK K
             refine norm_ (a' := ?_) ?_ ?_
             rotate_left
             ·show Act.put _ (some 132) _ = _
              simp only [Act.put, List.setIfInBounds_toArray, List.set_cons_zero, List.set_cons_succ, i64_w, i32_w]
              rfl
             refine one_ (i := 14) (N := some 133) #[true, true, true, true, true, true, true, true, true, true, true, true, true, true, true, false] rfl rfl (one_of HT_.out (by kernel_rfl)) (by decide) (fun K hK => ?_)
             refine Kd.N_append_rows_step (Kd.slice 3 (Kd.int .i64)) (w0 := w) w.heap.size (by rfl) (.tmp 119) (.tmp 132) 31 22 (.slice none 0 0) 24 rfl Try.underlying31 info22 rfl (by decide) (by omega) (.slice Ao82 x14_4.length co82) x14_4 y294 _ _ _ (fun k_ => (w.heap.size ≤ k_) ∧ some k_ ≠ (.slice (some ad283) x7_1.length co73 : Value).ownBlock ∧ some k_ ≠ (.slice (some ad287) x10_42.length co81 : Value).ownBlock ∧ some k_ ≠ (.slice Ao91 y288.length co91 : Value).ownBlock ∧ k_ ≠ gb241) (fun k_ => ((fun k_ => (w.heap.size ≤ k_) ∧ some k_ ≠ (.slice (some ad283) x7_1.length co73 : Value).ownBlock ∧ some k_ ≠ (.slice (some ad287) x10_42.length co81 : Value).ownBlock ∧ some k_ ≠ (.slice Ao91 y288.length co91 : Value).ownBlock ∧ k_ ≠ gb241)) k_ ∧ some k_ ≠ (.slice Ao82 x14_4.length co82 : Value).ownBlock) rfl rfl ?aO ?aR (fun _ hk => hk) ?aF ?aB ?aS ?aL ?_
             (case aR => exact (by skip; exact Kd.N_F (Kd.N_mono (ok' := (fun k_ => ((fun k_ => (w.heap.size ≤ k_) ∧ some k_ ≠ (.slice (some ad283) x7_1.length co73 : Value).ownBlock ∧ some k_ ≠ (.slice (some ad287) x10_42.length co81 : Value).ownBlock ∧ some k_ ≠ (.slice Ao91 y288.length co91 : Value).ownBlock ∧ k_ ≠ gb241)) k_ ∧ some k_ ≠ (.slice Ao82 x14_4.length co82 : Value).ownBlock)) (HO296.out) (fun k_ hk => ⟨⟨hk.1, ⟨hk.2.1, ⟨hk.2.2.1, ⟨hk.2.2.2.2.1, hk.2.2.2.2.2⟩⟩⟩⟩, hk.2.2.2.1⟩))))
             (case aB => exact (HB.out))
             (case aF => exact (fun k_ hk => ⟨(Nat.le_trans (below_size (HB.out)) hk), Kd.fresh' (Kd.N_lt (by exact HO_7.out)) k_ hk, Kd.fresh' (Kd.R_lt (by exact HO_10.out)) k_ hk, Kd.fresh' (Kd.R_lt (by exact HO290.out)) k_ hk, Kd.freshB (g := gb241) (o := .cells #[.int .i64 a1_0, .slice A1_1 l1_1.length c1_1, .slice A1_2 l1_2.length c1_2, .slice A1_3 l1_3.length c1_3, .slice A1_4 l1_4.length c1_4, .slice A1_5 l1_5.length c1_5] 33 (0, 0)) (by exact BK241.out) k_ hk⟩))
             (case aO => exact (by exact Kd.N_mono HO_14.out (fun _ hk => ⟨hk.1.1.1, ⟨hk.1.1.2.1, ⟨hk.1.1.2.2.1, ⟨hk.1.1.2.2.2.1, hk.1.1.2.2.2.2⟩⟩⟩⟩)))
             (case aS => exact (below_size (HB.out)))
             (case aL => have := LMc80.out; omega)
             intro v298 w95 ho hb hg hat
             have HS0_ := cell_grown hg (by exact hHeld.1) (by rw [add_block]; exact fun e_ => (HO_14.out.1 _ e_.symm).1.1.2.1 rfl)
             have HS1_ := cell_grown hg (by exact hHeld.2) (by rw [add_block]; exact Kd.N_ne HO_14.out (Kd.R_typed HO_10.out _ rfl).choose_spec (by decide))
             rw [← Ny297.out] at ho
             have n0_ := Aside0.mk (Kd.N_afterv (ok := (fun k_ => (w.heap.size ≤ k_) ∧ some k_ ≠ (.slice (some ad287) x10_42.length co81 : Value).ownBlock ∧ some k_ ≠ (.slice Ao91 y288.length co91 : Value).ownBlock ∧ some k_ ≠ (.slice Ao96 y294.length co96 : Value).ownBlock ∧ k_ ≠ gb241)) (by exact Kd.N_mono HO_7.out (fun _ hk => ⟨⟨hk.1.1.1, ⟨hk.1.1.2.1, ⟨hk.1.1.2.2.2.1, ⟨hk.2, hk.1.1.2.2.2.2⟩⟩⟩⟩, hk.1.1.2.2.1⟩)) hg hat)
             have n1_ := Aside0.mk (Kd.R_over' (by exact HO_10.out) (Kd.N_typed (by exact HO_14.out)) (by decide) hg)
             have n2_ := Aside0.mk (blk_grown (g := gb241) (o := .cells #[.int .i64 a1_0, .slice A1_1 l1_1.length c1_1, .slice A1_2 l1_2.length c1_2, .slice A1_3 l1_3.length c1_3, .slice A1_4 l1_4.length c1_4, .slice A1_5 l1_5.length c1_5] 33 (0, 0)) (by exact BK241.out) hg (Kd.N_ne HO_14.out BK241.out (by decide)))
             have n3_ := Aside0.mk (Kd.V_afterv (ok := (fun k_ => (w.heap.size ≤ k_) ∧ some k_ ≠ (.slice (some ad283) x7_1.length co73 : Value).ownBlock ∧ some k_ ≠ (.slice (some ad287) x10_42.length co81 : Value).ownBlock ∧ some k_ ≠ (.slice Ao91 y288.length co91 : Value).ownBlock ∧ some k_ ≠ (.slice Ao96 y294.length co96 : Value).ownBlock ∧ k_ ≠ gb241)) (by exact Kd.V_mono HL283_0.out (fun _ hk => ⟨⟨hk.1.1.1, ⟨hk.1.1.2.1, ⟨hk.1.1.2.2.1, ⟨hk.1.1.2.2.2.2.1, ⟨hk.2, hk.1.1.2.2.2.2.2⟩⟩⟩⟩⟩, hk.1.1.2.2.2.1⟩)) hg hat)
             have n4_ := Aside0.mk (Kd.R_over' (by exact HO290.out) (Kd.N_typed (by exact HO_14.out)) (by decide) hg)
             have n5_ := Aside0.mk (Kd.N_afterv (ok := (fun k_ => (w.heap.size ≤ k_) ∧ some k_ ≠ (.slice (some ad283) x7_1.length co73 : Value).ownBlock ∧ some k_ ≠ (.slice (some ad287) x10_42.length co81 : Value).ownBlock ∧ some k_ ≠ (.slice Ao91 y288.length co91 : Value).ownBlock ∧ k_ ≠ gb241)) (by exact Kd.N_mono HO296.out (fun _ hk => ⟨⟨hk.1, ⟨hk.2.1, ⟨hk.2.2.1, ⟨hk.2.2.2.2.1, hk.2.2.2.2.2⟩⟩⟩⟩, hk.2.2.2.1⟩)) hg hat)
             have n6_ := Aside0.mk (hb)
             have n7_ := Aside0.mk (ho)
             clear HO_7 HO_10 BK241 HL283_0 HO290 HO296 HB HO_14
             have HO_7 := n0_
             have HO_10 := n1_
             have BK241 := n2_
             have HL283_0 := n3_
             have HO290 := n4_
             have HO296 := n5_
             have HB := n6_
             have HO299 := n7_
             clear n0_ n1_ n2_ n3_ n4_ n5_ n6_ n7_ ho hb hg hat
             refine hK.out _ _ ⟨HS0_, HS1_⟩ (fun hHeld => ?_)
             clear hK K
             refine norm_ (a' := ?_) ?_ ?_
             rotate_left
             ·show Act.put _ (some 133) _ = _
              simp only [Act.put, List.setIfInBounds_toArray, List.set_cons_zero, List.set_cons_succ, i64_w, i32_w]
              rfl
             refine pure_ (i := 15) (N := some 14) (v := ?_) (a' := ?_) #[true, true, true, true, true, true, true, true, true, true, true, true, true, true, true, true] rfl rfl (any_of HT_.out (by kernel_rfl)) (fun _ _ _ h => h) (Or.inl ⟨by rfl, ?_⟩) ?_ ?_
             rotate_left
             ·intro w'
              go_simp
              with_reducible rfl
             rotate_left
             ·simp only [Act.put, List.setIfInBounds_toArray, List.set_cons_zero, List.set_cons_succ, i64_w, i32_w]
              rfl
             refine done_ (done_of HT_.out (by kernel_rfl)) ?_
             go_wp2
             go_roundg k4
             case measure => have := HK1.out; have := HJ42.out; have := HK3.out; have := HK4.out; omega
             case rel => exact ⟨(y297), (wrap64 (x16_4 + 1)), (by rfl), H', ⟨by have := HK1.out; have := HJ42.out; have := HK3.out; have := HK4.out; omega⟩, ⟨by (with_reducible repeat (first | apply Kd.N_alloc | apply Kd.N_drewN | apply Kd.N_drew)); exact Kd.N_mono HO_7.out (fun _ hk => ⟨hk.1.1, ⟨hk.1.2.1, ⟨hk.2, hk.1.2.2.2.2⟩⟩⟩)⟩, ⟨by (with_reducible repeat (first | apply Kd.R_alloc | apply Kd.R_drewN | apply Kd.R_drew)); exact Kd.R_mono HO_10.out (fun _ hk => hk.1.1)⟩, ⟨by (with_reducible repeat (first | apply Kd.N_alloc | apply Kd.N_drewN | apply Kd.N_drew)); exact Kd.N_mono HO299.out (fun _ hk => ⟨hk.1, ⟨hk.2.1, ⟨hk.2.2.1, hk.2.2.2.2⟩⟩⟩)⟩, ⟨by (with_reducible repeat (first | refine blk_drewN ?_ _ | refine blk_drew ?_ | refine blk_alloc ?_ _)); exact BK241.out⟩, ⟨HB.out⟩⟩
            rw [if_neg c74] at H
            have c74b0 : decide (x16_4 < (x10_42.length : Int)) = false := decide_eq_false c74
            clear c74
            have H' := Aside0.mk H
            clear H
            obtain ⟨Ao97, co97, eo97⟩ := Kd.R_slice HO_10.out
            subst eo97
            go_wp2
            go_roundg k4
            case measure => have := HK1.out; have := HJ42.out; have := HK3.out; have := HK4.out; omega
            case rel => exact ⟨(x14_4), (wrap64 (x15_3 + 1)), (by rfl), H', ⟨by have := HK1.out; have := HJ42.out; have := HK3.out; have := HK4.out; omega⟩, ⟨by (with_reducible repeat (first | apply Kd.N_alloc | apply Kd.N_drewN | apply Kd.N_drew)); exact HO_7.out⟩, ⟨by (with_reducible repeat (first | apply Kd.R_alloc | apply Kd.R_drewN | apply Kd.R_drew)); exact HO_10.out⟩, ⟨by (with_reducible repeat (first | apply Kd.N_alloc | apply Kd.N_drewN | apply Kd.N_drew)); exact HO_14.out⟩, ⟨by (with_reducible repeat (first | refine blk_drewN ?_ _ | refine blk_drew ?_ | refine blk_alloc ?_ _)); exact BK241.out⟩, ⟨HB.out⟩⟩
         rw [if_neg c72] at H
         have c72b0 : decide (x15_3 < (x7_1.length : Int)) = false := decide_eq_false c72
         clear c72
         have H' := Aside0.mk H
         clear H
         obtain ⟨Ao98, co98, eo98⟩ := Kd.N_slice HO_7.out
         subst eo98
         go_wp2
         go_roundg k3
         case measure => have := HK1.out; have := HJ42.out; have := HK3.out; omega
         case rel => exact ⟨(x14_3), (wrap64 (x9_1 + 1)), (by rfl), H', ⟨by have := HK1.out; have := HJ42.out; have := HK3.out; omega⟩, ⟨by (with_reducible repeat (first | apply Kd.N_alloc | apply Kd.N_drewN | apply Kd.N_drew)); exact Kd.N_mono HO_14.out (fun _ hk => ⟨hk.1, hk.2.2.2⟩)⟩, ⟨by (with_reducible repeat (first | refine blk_drewN ?_ _ | refine blk_drew ?_ | refine blk_alloc ?_ _)); exact BK241.out⟩, ⟨HB.out⟩⟩
    rw [if_neg c42] at H
    have c42b0 : decide (x9_1 < (l0.length : Int)) = false := decide_eq_false c42
    clear c42
    simp only [Option.some.injEq, Prod.mk.injEq] at H
    obtain ⟨rfl, rfl⟩ := H
    go_wp2
    go_ret2
    exact ⟨_, by rfl, by (with_reducible repeat (first | apply Kd.N_alloc | apply Kd.N_drewN | apply Kd.N_drew)); exact Kd.N_mono HO_7.out (fun _ hk => hk.1), HB.out⟩
 rw [if_neg c4] at H
 have c4b0 : (t242 == 0) = false := beq_eq_false_iff_ne.mpr c4
 have c4b1 : (t242 != 0) = true := bne_iff_ne.mpr c4
 simp only [Option.some.injEq, Prod.mk.injEq] at H
 obtain ⟨rfl, rfl⟩ := H
 go_enter Try.func23, Try.ntmps23
 go_wp2_with (first | ((with_reducible refine gate_dst (N := 3) rfl ?_); refine box_event ?hg (N := 3) ?hd (cs := #[.int .i64 a1_0, .slice A1_1 l1_1.length c1_1, .slice A1_2 l1_2.length c1_2, .slice A1_3 l1_3.length c1_3, .slice A1_4 l1_4.length c1_4, .slice A1_5 l1_5.length c1_5]) (t := 33) ?hr ?_; (case hd => rfl); (case hg => rfl); (case hr => (go_simp; done)); intro gb241 hg w99 hbox hb; have n0_ := Aside0.mk (below_step (HB.out) hb); have n1_ := Aside0.mk (hbox); have n2_ := Aside0.mk ((by rw [hg]; exact (below_size (HB.out)) : w.heap.size ≤ gb241)); have n3_ := Aside0.mk ((by rw [hg]; exact (below_size (HB.out)) : w.heap.size ≤ gb241)); clear HB; have HB := n0_; have BK241 := n1_; have GW241 := n2_; have GE241 := n3_; clear n0_ n1_ n2_ n3_; clear hb hbox hg; have hcz100_0 : w99.cell? ⟨gb241, 0, none⟩ = some (.int .i64 a1_0) := (blk_cell BK241.out 0).trans rfl; have hcz100_1 : w99.cell? ⟨gb241, 1, none⟩ = some (.slice A1_1 l1_1.length c1_1) := (blk_cell BK241.out 1).trans rfl; have hcz100_2 : w99.cell? ⟨gb241, 2, none⟩ = some (.slice A1_2 l1_2.length c1_2) := (blk_cell BK241.out 2).trans rfl; have hcz100_3 : w99.cell? ⟨gb241, 3, none⟩ = some (.slice A1_3 l1_3.length c1_3) := (blk_cell BK241.out 3).trans rfl; have hcz100_4 : w99.cell? ⟨gb241, 4, none⟩ = some (.slice A1_4 l1_4.length c1_4) := (blk_cell BK241.out 4).trans rfl; have hcz100_5 : w99.cell? ⟨gb241, 5, none⟩ = some (.slice A1_5 l1_5.length c1_5) := (blk_cell BK241.out 5).trans rfl; have hfz100_0 := blk_frozen BK241.out 0; have hfz100_1 := blk_frozen BK241.out 1; have hfz100_2 := blk_frozen BK241.out 2; have hfz100_3 := blk_frozen BK241.out 3; have hfz100_4 := blk_frozen BK241.out 4; have hfz100_5 := blk_frozen BK241.out 5) | ((with_reducible refine gate_callee (f := 20) rfl ?_); refine goesL_ (some 19) rfl rfl Try.func20 (by kernel_rfl) rfl #[.slice A0 l0.length c0, .agg #[.int .i64 a1_0, .slice A1_1 l1_1.length c1_1, .slice A1_2 l1_2.length c1_2, .slice A1_3 l1_3.length c1_3, .slice A1_4 l1_4.length c1_4, .slice A1_5 l1_5.length c1_5]] rfl (by (simp only [List.map_toArray, List.map_cons, List.map_nil]); rfl) ?_; (with_reducible refine (slabvaultref12_Check.calls k _ _ l0 a1_0 _ _ l1_1 _ _ l1_2 _ _ l1_3 _ _ l1_4 _ _ l1_5 t242 _ ?side1 ?side2 ?side3 ?side4 ?side5 ?side6 ?side7 ?side8 ?side9 ?side10 ?side11 ?side12 A3.out).mono ?_); (case side1 => repeat (exact (Kd.C_below HR0.out HB.out))); (case side2 => exact HC0.out); (case side3 => repeat (exact (Kd.C_below HR1_1.out HB.out))); (case side4 => exact HC1_1.out); (case side5 => repeat (exact (Kd.C_below HR1_2.out HB.out))); (case side6 => exact HC1_2.out); (case side7 => repeat (exact (Kd.C_below HR1_3.out HB.out))); (case side8 => exact HC1_3.out); (case side9 => repeat (exact (Kd.C_below HR1_4.out HB.out))); (case side10 => exact HC1_4.out); (case side11 => repeat (exact (Kd.C_below HR1_5.out HB.out))); (case side12 => exact HC1_5.out); rintro e w101 ⟨rfl, hb⟩; refine ⟨_, rfl, ?_⟩; have n0_ := Aside0.mk (blk_below (g := gb241) (o := .cells #[.int .i64 a1_0, .slice A1_1 l1_1.length c1_1, .slice A1_2 l1_2.length c1_2, .slice A1_3 l1_3.length c1_3, .slice A1_4 l1_4.length c1_4, .slice A1_5 l1_5.length c1_5] 33 (0, 0)) (by exact BK241.out) hb); have n1_ := Aside0.mk (below_step (HB.out) hb); clear BK241; clear HB; have BK241 := n0_; have HB := n1_; clear n0_ n1_; (clear hb); (skip); (skip); (skip)))
 go_ret2
 exact ⟨_, by rfl, by exact Kd.N_nil _ _ _ _ _, HB.out⟩
end Go.Proofs.Ytjbjofmcmjojlaa.Wk
end
