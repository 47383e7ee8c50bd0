-- Texts that the row SpaceBeyond leans on, joined by wip/tools/mkclaim.py: Wk33, Wkslabvaultlaw12_own
import Derived.Test.YtjbjofmcmjojlaaCSpaceBeyond2
section
namespace Go.Proofs.Ytjbjofmcmjojlaa.Wk
open Go.RowKit Go.Proofs.YtjbjofmcmjojlaaW.PrintWords Go.Proofs.YtjbjofmcmjojlaaW.PrintLast Go.Proofs.YtjbjofmcmjojlaaW.PrintMore
attribute [local go_sem] max2_int min2_int max_two min_two max_three min_three max_four min_four
set_option linter.unusedVariables false
set_option linter.unusedSimpArgs false
def space_Count.f (k : Nat) (l0 : List Int) (a1_0 : Int) (l1_1 : List (List Int)) (l1_2 : List Int) (l1_3 : List Int) (l1_4 : List Int) (l1_5 : List Int) : Option (Int × Int) := (space_measured.f k l0 a1_0 l1_1 l1_2 l1_3 l1_4 l1_5).bind fun bt343 => (some (bt343.1, bt343.2))
set_option maxHeartbeats 8000000 in
set_option maxRecDepth 100000 in
theorem space_Count.calls (k : Nat) (A0 : Option Addr) (c0 : Nat) (l0 : List Int) (a1_0 : Int) (A1_1 : Option Addr) (c1_1 : Nat) (l1_1 : List (List Int)) (A1_2 : Option Addr) (c1_2 : Nat) (l1_2 : List Int) (A1_3 : Option Addr) (c1_3 : Nat) (l1_3 : List Int) (A1_4 : Option Addr) (c1_4 : Nat) (l1_4 : List Int) (A1_5 : Option Addr) (c1_5 : Nat) (l1_5 : List Int) (r1 : Int) (r2 : Int) (w : World) (hr0 : Kd.C (Kd.int .i64) w A0 l0.length l0) (hc0 : l0.length ≤ c0) (hr1_1 : Kd.C (Kd.slice 3 (Kd.int .i64)) w A1_1 l1_1.length l1_1) (hc1_1 : l1_1.length ≤ c1_1) (hr1_2 : Kd.C (Kd.int .i64) w A1_2 l1_2.length l1_2) (hc1_2 : l1_2.length ≤ c1_2) (hr1_3 : Kd.C (Kd.int .i64) w A1_3 l1_3.length l1_3) (hc1_3 : l1_3.length ≤ c1_3) (hr1_4 : Kd.C (Kd.int .i64) w A1_4 l1_4.length l1_4) (hc1_4 : l1_4.length ≤ c1_4) (hr1_5 : Kd.C (Kd.int .i64) w A1_5 l1_5.length l1_5) (hc1_5 : l1_5.length ≤ c1_5) (h : space_Count.f k l0 a1_0 l1_1 l1_2 l1_3 l1_4 l1_5 = some (r1, r2)) :
    Calls Try.prog 19 #[.slice A0 l0.length c0, .agg #[.int .i64 a1_0, .slice A1_1 l1_1.length c1_1, .slice A1_2 l1_2.length c1_2, .slice A1_3 l1_3.length c1_3, .slice A1_4 l1_4.length c1_4, .slice A1_5 l1_5.length c1_5]] w fun e w' => e = .returned (.tuple #[.int .i64 r1, .int .i64 r2]) ∧ Below w.heap.size w w' := by
  have hu33 := Try.underlying33
  have HR0 := Aside0.mk hr0
  have HC0 := Aside0.mk hc0
  clear hr0 hc0
  have HR1_1 := Aside0.mk hr1_1
  have HC1_1 := Aside0.mk hc1_1
  clear hr1_1 hc1_1
  have HR1_2 := Aside0.mk hr1_2
  have HC1_2 := Aside0.mk hc1_2
  clear hr1_2 hc1_2
  have HR1_3 := Aside0.mk hr1_3
  have HC1_3 := Aside0.mk hc1_3
  clear hr1_3 hc1_3
  have HR1_4 := Aside0.mk hr1_4
  have HC1_4 := Aside0.mk hc1_4
  clear hr1_4 hc1_4
  have HR1_5 := Aside0.mk hr1_5
  have HC1_5 := Aside0.mk hc1_5
  clear hr1_5 hc1_5
  have HB := Aside0.mk (Below.refl w.heap.size w)
  have H : ((space_measured.f k l0 a1_0 l1_1 l1_2 l1_3 l1_4 l1_5).bind fun bt343 => (some (bt343.1, bt343.2))) = some (r1, r2) := h
  clear h
  replace H := Option.bind_eq_some_iff.mp H
  obtain ⟨⟨t343, t344⟩, A30, H⟩ := H
  replace H : (some (t343, t344)) = some (r1, r2) := H
  have A3 := Aside0.mk A30
  clear A30
  simp only [Option.some.injEq, Prod.mk.injEq] at H
  obtain ⟨rfl, rfl⟩ := H
  go_enter Try.func19, Try.ntmps19
  go_wp2_with (first | ((with_reducible refine gate_dst (N := 3) rfl ?_); refine box_event ?hg (N := 3) ?hd (cs := #[.int .i64 a1_0, .slice A1_1 l1_1.length c1_1, .slice A1_2 l1_2.length c1_2, .slice A1_3 l1_3.length c1_3, .slice A1_4 l1_4.length c1_4, .slice A1_5 l1_5.length c1_5]) (t := 33) ?hr ?_; (case hd => rfl); (case hg => rfl); (case hr => first | (go_simp; done) | (go_simp; rfl)); intro gb342 hg w4 hbox hb; have n0_ := Aside0.mk (below_step (by repeat (first | (with_reducible first | exact HB.out | apply below_alloc | apply pw_below_drewN | apply below_drew1) | exact HB.out)) hb); have n1_ := Aside0.mk (hbox); have n2_ := Aside0.mk ((by rw [hg]; exact (below_size (by repeat (first | (with_reducible first | exact HB.out | apply below_alloc | apply pw_below_drewN | apply below_drew1) | exact HB.out))) : w.heap.size ≤ gb342)); have n3_ := Aside0.mk ((by rw [hg]; exact (below_size (by repeat (first | (with_reducible first | exact HB.out | apply below_alloc | apply pw_below_drewN | apply below_drew1) | exact HB.out))) : w.heap.size ≤ gb342)); clear HB; have HB := n0_; have BK342 := n1_; have GW342 := n2_; have GE342 := n3_; clear n0_ n1_ n2_ n3_; clear hb hbox hg; have hcz5_0 : w4.cell? ⟨gb342, 0, none⟩ = some (.int .i64 a1_0) := (blk_cell BK342.out 0).trans rfl; have hcz5_1 : w4.cell? ⟨gb342, 1, none⟩ = some (.slice A1_1 l1_1.length c1_1) := (blk_cell BK342.out 1).trans rfl; have hcz5_2 : w4.cell? ⟨gb342, 2, none⟩ = some (.slice A1_2 l1_2.length c1_2) := (blk_cell BK342.out 2).trans rfl; have hcz5_3 : w4.cell? ⟨gb342, 3, none⟩ = some (.slice A1_3 l1_3.length c1_3) := (blk_cell BK342.out 3).trans rfl; have hcz5_4 : w4.cell? ⟨gb342, 4, none⟩ = some (.slice A1_4 l1_4.length c1_4) := (blk_cell BK342.out 4).trans rfl; have hcz5_5 : w4.cell? ⟨gb342, 5, none⟩ = some (.slice A1_5 l1_5.length c1_5) := (blk_cell BK342.out 5).trans rfl; have hfz5_0 := blk_frozen BK342.out 0; have hfz5_1 := blk_frozen BK342.out 1; have hfz5_2 := blk_frozen BK342.out 2; have hfz5_3 := blk_frozen BK342.out 3; have hfz5_4 := blk_frozen BK342.out 4; have hfz5_5 := blk_frozen BK342.out 5) | ((with_reducible refine gate_callee (f := 30) rfl ?_); refine goesL_ (some 8) rfl rfl Try.func30 (by kernel_rfl) rfl #[.slice A0 l0.length c0, .agg #[.int .i64 a1_0, .slice A1_1 l1_1.length c1_1, .slice A1_2 l1_2.length c1_2, .slice A1_3 l1_3.length c1_3, .slice A1_4 l1_4.length c1_4, .slice A1_5 l1_5.length c1_5]] rfl (by (try simp only [List.map_toArray, List.map_cons, List.map_nil]); first | done | rfl | (simp only [List.length_drop, List.length_take]; rfl)) ?_; (with_reducible refine (space_measured.calls k _ _ l0 a1_0 _ _ l1_1 (fun k_ => k_ < w.heap.size) _ _ l1_2 (fun k_ => k_ < w.heap.size) _ _ l1_3 (fun k_ => k_ < w.heap.size) _ _ l1_4 (fun k_ => k_ < w.heap.size) _ _ l1_5 t343 t344 _ ?side1 ?side2 ?side3 ?side4 ?side5 ?side6 ?side7 ?side8 A3.out).mono ?_); (case side1 => repeat (first | exact (Kd.C_below HR0.out HB.out) | (with_reducible refine Kd.C_alloc ?_ _) | (with_reducible refine Kd.C_drewN ?_ _) | (with_reducible refine Kd.C_drew ?_))); (case side2 => exact HC0.out); (case side3 => repeat (first | exact (Kd.C_below HR1_1.out HB.out) | (with_reducible refine Kd.C_alloc ?_ _) | (with_reducible refine Kd.C_drewN ?_ _) | (with_reducible refine Kd.C_drew ?_))); (case side4 => exact HC1_1.out); (case side5 => exact Kd.V_mk HC1_2.out (Kd.F_below (Kd.C_F (Kd.heap_int .i64) HR1_2.out) (by repeat (first | (with_reducible first | exact HB.out | apply below_alloc | apply pw_below_drewN | apply below_drew1 | refine below_set ?_ GE342.out) | exact HB.out)))); (case side6 => exact Kd.V_mk HC1_3.out (Kd.F_below (Kd.C_F (Kd.heap_int .i64) HR1_3.out) (by repeat (first | (with_reducible first | exact HB.out | apply below_alloc | apply pw_below_drewN | apply below_drew1 | refine below_set ?_ GE342.out) | exact HB.out)))); (case side7 => exact Kd.V_mk HC1_4.out (Kd.F_below (Kd.C_F (Kd.heap_int .i64) HR1_4.out) (by repeat (first | (with_reducible first | exact HB.out | apply below_alloc | apply pw_below_drewN | apply below_drew1 | refine below_set ?_ GE342.out) | exact HB.out)))); (case side8 => exact Kd.V_mk HC1_5.out (Kd.F_below (Kd.C_F (Kd.heap_int .i64) HR1_5.out) (by repeat (first | (with_reducible first | exact HB.out | apply below_alloc | apply pw_below_drewN | apply below_drew1 | refine below_set ?_ GE342.out) | exact HB.out)))); rintro e w6 ⟨rfl, hb⟩; refine ⟨_, rfl, ?_⟩; have n0_ := Aside0.mk (blk_below (g := gb342) (o := .cells #[.int .i64 a1_0, .slice A1_1 l1_1.length c1_1, .slice A1_2 l1_2.length c1_2, .slice A1_3 l1_3.length c1_3, .slice A1_4 l1_4.length c1_4, .slice A1_5 l1_5.length c1_5] 33 (0, 0)) (by (with_reducible repeat (first | refine blk_drewN ?_ _ | refine blk_drew ?_ | refine blk_alloc ?_ _)); exact BK342.out) hb); have n1_ := Aside0.mk (below_step (by repeat (first | (with_reducible first | exact HB.out | apply below_alloc | apply pw_below_drewN | apply below_drew1 | refine below_set ?_ GE342.out) | exact HB.out)) hb); clear BK342; clear HB; have BK342 := n0_; have HB := n1_; clear n0_ n1_; (try clear hb); (try clear hb2); (try clear hk); (try clear hi)))
  go_ret2
  exact ⟨by first | rfl | (simp [errW_none, errW_some] <;> rfl) | (simp [*, errW_none, errW_some] <;> rfl), by repeat (first | (with_reducible first | exact HB.out | apply below_alloc | apply pw_below_drewN | apply below_drew1 | refine below_set ?_ GE342.out) | exact HB.out)⟩
end Go.Proofs.Ytjbjofmcmjojlaa.Wk
end
section
namespace Go.Proofs.Ytjbjofmcmjojlaa.Wk
open Go.RowKit Go.Proofs.YtjbjofmcmjojlaaW.PrintWords Go.Proofs.YtjbjofmcmjojlaaW.PrintLast Go.Proofs.YtjbjofmcmjojlaaW.PrintMore
attribute [local go_sem] max2_int min2_int max_two min_two max_three min_three max_four min_four
set_option linter.unusedVariables false
set_option linter.unusedSimpArgs false
def slabvaultlaw12_own.l0 : Nat → Int → Int → List (List Int) → List Int → List Int → List Int → List Int → Int → List (List Int) → List Int → List Int → List Int → List Int → Option (Int × (List (List Int)) × List Int × List Int × List Int × List Int)
 | 0, _, _, _, _, _, _, _, _, _, _, _, _, _ => none
 | k + 1, x4, x207000, x207001, x207002, x207003, x207004, x207005, x233000, x233001, x233002, x233003, x233004, x233005 => if x4 < (x207001.length : Int) then ((some (([] : List Int) : List Int)).bind fun y233 => (if 0 ≤ x4 then (if y233.length + (rd_L1 x207001 x4).length < 17592186044416 then (if x233001.length < 5864062014805 then (slabvaultlaw12_own.l0 k (wrap64 (x4 + 1)) x207000 x207001 x207002 x207003 x207004 x207005 x233000 (x233001 ++ [(y233 ++ (rd_L1 x207001 x4))]) x233002 x233003 x233004 x233005) else (none)) else (none)) else (none))) else (some (x233000, x233001, x233002, x233003, x233004, x233005))
def slabvaultlaw12_own.f (k : Nat) (a0_0 : Int) (l0_1 : List (List Int)) (l0_2 : List Int) (l0_3 : List Int) (l0_4 : List Int) (l0_5 : List Int) : Option (Int × (List (List Int)) × List Int × List Int × List Int × List Int) := (some (([] : List Int) : List Int)).bind fun y208 => (if y208.length + l0_2.length < 17592186044416 then ((some (([] : List Int) : List Int)).bind fun y214 => (if y214.length + l0_3.length < 17592186044416 then ((some (([] : List Int) : List Int)).bind fun y220 => (if y220.length + l0_4.length < 17592186044416 then ((some (([] : List Int) : List Int)).bind fun y226 => (if y226.length + l0_5.length < 17592186044416 then (slabvaultlaw12_own.l0 k 0 a0_0 l0_1 l0_2 l0_3 l0_4 l0_5 a0_0 ([] : List (List Int)) (y208 ++ l0_2) (y214 ++ l0_3) (y220 ++ l0_4) (y226 ++ l0_5)) else (none))) else (none))) else (none))) else (none))
def slabvaultlaw12_own.T1 : Bool × List (List Nat × List Nat) := (true, [([], []), ([0], [0]), ([], []), ([], []), ([3], [3]), ([2, 4], [2, 4]), ([], []), ([], []), ([7], [7]), ([6, 8, 5], [6, 8]), ([], []), ([], []), ([11], [11]), ([10, 12, 9], [10, 12]), ([], []), ([], []), ([15], [15]), ([14, 16, 13], [14, 16]), ([1, 5, 9, 13, 17], [1, 5, 9, 13, 17]), ([], []), ([19, 18, 17, 0, 1, 2, 3, 4, 5, 6, 7, 8, 9, 10, 11, 12, 13, 14, 15, 16, 17, 18, 19], [18, 19])])
def slabvaultlaw12_own.B1 : List Nat := [0, 1, 0, 0, 8, 28, 0, 0, 128, 508, 0, 0, 2048, 8188, 0, 0, 32768, 131068, 262143, 0, 1048575]
theorem slabvaultlaw12_own.tab1 : rtab .any (opsOf Try.f21 1) = slabvaultlaw12_own.T1 := by kernel_rfl
theorem slabvaultlaw12_own.bits1 : waitsOk slabvaultlaw12_own.T1.2 slabvaultlaw12_own.B1 = true := by kernel_rfl
def slabvaultlaw12_own.T5 : Bool × List (List Nat × List Nat) := (true, [([], []), ([0], [0]), ([], []), ([], []), ([3], [3]), ([], []), ([4, 5], [4, 5]), ([6], [6]), ([2, 7], [2, 7]), ([8], [8]), ([1, 9, 8], [1, 9]), ([0, 1, 2, 3, 4, 5, 6, 7, 8, 9, 10], []), ([11, 10, 10, 0, 1, 2, 3, 4, 5, 6, 7, 8, 9, 10], [10, 11])])
def slabvaultlaw12_own.B5 : List Nat := [0, 1, 0, 0, 8, 0, 56, 120, 252, 508, 1023, 2047, 4095]
theorem slabvaultlaw12_own.tab5 : rtab .any (opsOf Try.f21 5) = slabvaultlaw12_own.T5 := by kernel_rfl
theorem slabvaultlaw12_own.bits5 : waitsOk slabvaultlaw12_own.T5.2 slabvaultlaw12_own.B5 = true := by kernel_rfl
theorem R_as {e : Nat} {w : World} {base : Nat} {ok : Nat → Prop} {v : Value} {xs : List Int} (h : (Kd.int .i64).R e w base (fun _ => True) v xs) (hok : ∀ k, v.ownBlock = some k → ok k) : (Kd.int .i64).R e w base ok v xs := Kd.R_mono (Kd.R_tight rfl h) (fun k hk => hok k hk.symm)
set_option maxHeartbeats 8000000 in
set_option maxRecDepth 100000 in
theorem slabvaultlaw12_own.calls (k : Nat) (a0_0 : Int) (A0_1 : Option Addr) (c0_1 : Nat) (l0_1 : List (List Int)) (A0_2 : Option Addr) (c0_2 : Nat) (l0_2 : List Int) (A0_3 : Option Addr) (c0_3 : Nat) (l0_3 : List Int) (A0_4 : Option Addr) (c0_4 : Nat) (l0_4 : List Int) (A0_5 : Option Addr) (c0_5 : Nat) (l0_5 : List Int) (r1 : Int) (r2 : List (List Int)) (r3 : List Int) (r4 : List Int) (r5 : List Int) (r6 : List Int) (w : World) (hr0_1 : Kd.C (Kd.slice 3 (Kd.int .i64)) w A0_1 l0_1.length l0_1) (hc0_1 : l0_1.length ≤ c0_1) (hr0_2 : Kd.C (Kd.int .i64) w A0_2 l0_2.length l0_2) (hc0_2 : l0_2.length ≤ c0_2) (hr0_3 : Kd.C (Kd.int .i64) w A0_3 l0_3.length l0_3) (hc0_3 : l0_3.length ≤ c0_3) (hr0_4 : Kd.C (Kd.int .i64) w A0_4 l0_4.length l0_4) (hc0_4 : l0_4.length ≤ c0_4) (hr0_5 : Kd.C (Kd.int .i64) w A0_5 l0_5.length l0_5) (hc0_5 : l0_5.length ≤ c0_5) (h : slabvaultlaw12_own.f k a0_0 l0_1 l0_2 l0_3 l0_4 l0_5 = some (r1, r2, r3, r4, r5, r6)) :
 Calls Try.prog 21 #[.agg #[.int .i64 a0_0, .slice A0_1 l0_1.length c0_1, .slice A0_2 l0_2.length c0_2, .slice A0_3 l0_3.length c0_3, .slice A0_4 l0_4.length c0_4, .slice A0_5 l0_5.length c0_5]] w fun e w' => ∃ v1_ v2_ v3_ v4_ v5_ : Value, e = .returned (.agg #[.int .i64 r1, v1_, v2_, v3_, v4_, v5_]) ∧ Kd.S (Kd.slice 3 (Kd.int .i64)) 22 w' w.heap.size (fun k_ => some k_ ≠ (v2_ : Value).ownBlock ∧ some k_ ≠ (v3_ : Value).ownBlock ∧ some k_ ≠ (v4_ : Value).ownBlock ∧ some k_ ≠ (v5_ : Value).ownBlock) v1_ r2 ∧ Kd.R (Kd.int .i64) 3 w' w.heap.size (fun k_ => some k_ ≠ (v3_ : Value).ownBlock ∧ some k_ ≠ (v4_ : Value).ownBlock ∧ some k_ ≠ (v5_ : Value).ownBlock) v2_ r3 ∧ Kd.R (Kd.int .i64) 3 w' w.heap.size (fun k_ => some k_ ≠ (v2_ : Value).ownBlock ∧ some k_ ≠ (v4_ : Value).ownBlock ∧ some k_ ≠ (v5_ : Value).ownBlock) v3_ r4 ∧ Kd.R (Kd.int .i64) 3 w' w.heap.size (fun k_ => some k_ ≠ (v2_ : Value).ownBlock ∧ some k_ ≠ (v3_ : Value).ownBlock ∧ some k_ ≠ (v5_ : Value).ownBlock) v4_ r5 ∧ Kd.R (Kd.int .i64) 3 w' w.heap.size (fun k_ => some k_ ≠ (v2_ : Value).ownBlock ∧ some k_ ≠ (v3_ : Value).ownBlock ∧ some k_ ≠ (v4_ : Value).ownBlock) v5_ r6 ∧ Below w.heap.size w w' := by
 have hu33 := Try.underlying33
 have HR0_1 := Aside0.mk hr0_1
 have HC0_1 := Aside0.mk hc0_1
 clear hr0_1 hc0_1
 have HR0_2 := Aside0.mk hr0_2
 have HC0_2 := Aside0.mk hc0_2
 clear hr0_2 hc0_2
 have HR0_3 := Aside0.mk hr0_3
 have HC0_3 := Aside0.mk hc0_3
 clear hr0_3 hc0_3
 have HR0_4 := Aside0.mk hr0_4
 have HC0_4 := Aside0.mk hc0_4
 clear hr0_4 hc0_4
 have HR0_5 := Aside0.mk hr0_5
 have HC0_5 := Aside0.mk hc0_5
 clear hr0_5 hc0_5
 have HB := Aside0.mk (Below.refl w.heap.size w)
 have H : ((some (([] : List Int) : List Int)).bind fun y208 => (if y208.length + l0_2.length < 17592186044416 then ((some (([] : List Int) : List Int)).bind fun y214 => (if y214.length + l0_3.length < 17592186044416 then ((some (([] : List Int) : List Int)).bind fun y220 => (if y220.length + l0_4.length < 17592186044416 then ((some (([] : List Int) : List Int)).bind fun y226 => (if y226.length + l0_5.length < 17592186044416 then (slabvaultlaw12_own.l0 k 0 a0_0 l0_1 l0_2 l0_3 l0_4 l0_5 a0_0 ([] : List (List Int)) (y208 ++ l0_2) (y214 ++ l0_3) (y220 ++ l0_4) (y226 ++ l0_5)) else (none))) else (none))) else (none))) else (none))) = some (r1, r2, r3, r4, r5, r6) := h
 clear h
 obtain ⟨y208, hy208⟩ : ∃ y_ : List Int, y_ = (([] : List Int)) := ⟨_, rfl⟩
 replace H : (if y208.length + l0_2.length < 17592186044416 then ((some (([] : List Int) : List Int)).bind fun y214 => (if y214.length + l0_3.length < 17592186044416 then ((some (([] : List Int) : List Int)).bind fun y220 => (if y220.length + l0_4.length < 17592186044416 then ((some (([] : List Int) : List Int)).bind fun y226 => (if y226.length + l0_5.length < 17592186044416 then (slabvaultlaw12_own.l0 k 0 a0_0 l0_1 l0_2 l0_3 l0_4 l0_5 a0_0 ([] : List (List Int)) (y208 ++ l0_2) (y214 ++ l0_3) (y220 ++ l0_4) (y226 ++ l0_5)) else (none))) else (none))) else (none))) else (none)) = some (r1, r2, r3, r4, r5, r6) := by first | (rw [hy208]; with_reducible exact H) | (have H2_ := (Option.bind_some _ _).symm.trans H; rw [hy208]; with_reducible exact H2_) | (have H2_ := (Option.bind_some _ _).symm.trans H; with_reducible exact H2_) | with_reducible exact H | (rw [hy208]; exact H) | exact H
 have Ny208 := Aside0.mk hy208
 clear hy208
 by_cases c2 : y208.length + l0_2.length < 17592186044416
 ·rw [if_pos c2] at H
  have LMc2 := Aside0.mk c2
  clear c2
  obtain ⟨y211, hy211⟩ : ∃ y_ : List Int, y_ = (y208 ++ l0_2) := ⟨_, rfl⟩
  replace H : ((some (([] : List Int) : List Int)).bind fun y214 => (if y214.length + l0_3.length < 17592186044416 then ((some (([] : List Int) : List Int)).bind fun y220 => (if y220.length + l0_4.length < 17592186044416 then ((some (([] : List Int) : List Int)).bind fun y226 => (if y226.length + l0_5.length < 17592186044416 then (slabvaultlaw12_own.l0 k 0 a0_0 l0_1 l0_2 l0_3 l0_4 l0_5 a0_0 ([] : List (List Int)) y211 (y214 ++ l0_3) (y220 ++ l0_4) (y226 ++ l0_5)) else (none))) else (none))) else (none))) = some (r1, r2, r3, r4, r5, r6) := by first | (rw [hy211]; with_reducible exact H) | (have H2_ := (Option.bind_some _ _).symm.trans H; rw [hy211]; with_reducible exact H2_) | (have H2_ := (Option.bind_some _ _).symm.trans H; with_reducible exact H2_) | with_reducible exact H | (rw [hy211]; exact H) | exact H
  have Ny211 := Aside0.mk hy211
  clear hy211
  obtain ⟨y214, hy214⟩ : ∃ y_ : List Int, y_ = (([] : List Int)) := ⟨_, rfl⟩
  replace H : (if y214.length + l0_3.length < 17592186044416 then ((some (([] : List Int) : List Int)).bind fun y220 => (if y220.length + l0_4.length < 17592186044416 then ((some (([] : List Int) : List Int)).bind fun y226 => (if y226.length + l0_5.length < 17592186044416 then (slabvaultlaw12_own.l0 k 0 a0_0 l0_1 l0_2 l0_3 l0_4 l0_5 a0_0 ([] : List (List Int)) y211 (y214 ++ l0_3) (y220 ++ l0_4) (y226 ++ l0_5)) else (none))) else (none))) else (none)) = some (r1, r2, r3, r4, r5, r6) := by first | (rw [hy214]; with_reducible exact H) | (have H2_ := (Option.bind_some _ _).symm.trans H; rw [hy214]; with_reducible exact H2_) | (have H2_ := (Option.bind_some _ _).symm.trans H; with_reducible exact H2_) | with_reducible exact H | (rw [hy214]; exact H) | exact H
  have Ny214 := Aside0.mk hy214
  clear hy214
  by_cases c3 : y214.length + l0_3.length < 17592186044416
  ·rw [if_pos c3] at H
   have LMc3 := Aside0.mk c3
   clear c3
   obtain ⟨y217, hy217⟩ : ∃ y_ : List Int, y_ = (y214 ++ l0_3) := ⟨_, rfl⟩
   replace H : ((some (([] : List Int) : List Int)).bind fun y220 => (if y220.length + l0_4.length < 17592186044416 then ((some (([] : List Int) : List Int)).bind fun y226 => (if y226.length + l0_5.length < 17592186044416 then (slabvaultlaw12_own.l0 k 0 a0_0 l0_1 l0_2 l0_3 l0_4 l0_5 a0_0 ([] : List (List Int)) y211 y217 (y220 ++ l0_4) (y226 ++ l0_5)) else (none))) else (none))) = some (r1, r2, r3, r4, r5, r6) := by first | (rw [hy217]; with_reducible exact H) | (have H2_ := (Option.bind_some _ _).symm.trans H; rw [hy217]; with_reducible exact H2_) | (have H2_ := (Option.bind_some _ _).symm.trans H; with_reducible exact H2_) | with_reducible exact H | (rw [hy217]; exact H) | exact H
   have Ny217 := Aside0.mk hy217
   clear hy217
   obtain ⟨y220, hy220⟩ : ∃ y_ : List Int, y_ = (([] : List Int)) := ⟨_, rfl⟩
   replace H : (if y220.length + l0_4.length < 17592186044416 then ((some (([] : List Int) : List Int)).bind fun y226 => (if y226.length + l0_5.length < 17592186044416 then (slabvaultlaw12_own.l0 k 0 a0_0 l0_1 l0_2 l0_3 l0_4 l0_5 a0_0 ([] : List (List Int)) y211 y217 (y220 ++ l0_4) (y226 ++ l0_5)) else (none))) else (none)) = some (r1, r2, r3, r4, r5, r6) := by first | (rw [hy220]; with_reducible exact H) | (have H2_ := (Option.bind_some _ _).symm.trans H; rw [hy220]; with_reducible exact H2_) | (have H2_ := (Option.bind_some _ _).symm.trans H; with_reducible exact H2_) | with_reducible exact H | (rw [hy220]; exact H) | exact H
   have Ny220 := Aside0.mk hy220
   clear hy220
   by_cases c4 : y220.length + l0_4.length < 17592186044416
   ·rw [if_pos c4] at H
    have LMc4 := Aside0.mk c4
    clear c4
    obtain ⟨y223, hy223⟩ : ∃ y_ : List Int, y_ = (y220 ++ l0_4) := ⟨_, rfl⟩
    replace H : ((some (([] : List Int) : List Int)).bind fun y226 => (if y226.length + l0_5.length < 17592186044416 then (slabvaultlaw12_own.l0 k 0 a0_0 l0_1 l0_2 l0_3 l0_4 l0_5 a0_0 ([] : List (List Int)) y211 y217 y223 (y226 ++ l0_5)) else (none))) = some (r1, r2, r3, r4, r5, r6) := by first | (rw [hy223]; with_reducible exact H) | (have H2_ := (Option.bind_some _ _).symm.trans H; rw [hy223]; with_reducible exact H2_) | (have H2_ := (Option.bind_some _ _).symm.trans H; with_reducible exact H2_) | with_reducible exact H | (rw [hy223]; exact H) | exact H
    have Ny223 := Aside0.mk hy223
    clear hy223
    obtain ⟨y226, hy226⟩ : ∃ y_ : List Int, y_ = (([] : List Int)) := ⟨_, rfl⟩
    replace H : (if y226.length + l0_5.length < 17592186044416 then (slabvaultlaw12_own.l0 k 0 a0_0 l0_1 l0_2 l0_3 l0_4 l0_5 a0_0 ([] : List (List Int)) y211 y217 y223 (y226 ++ l0_5)) else (none)) = some (r1, r2, r3, r4, r5, r6) := by first | (rw [hy226]; with_reducible exact H) | (have H2_ := (Option.bind_some _ _).symm.trans H; rw [hy226]; with_reducible exact H2_) | (have H2_ := (Option.bind_some _ _).symm.trans H; with_reducible exact H2_) | with_reducible exact H | (rw [hy226]; exact H) | exact H
    have Ny226 := Aside0.mk hy226
    clear hy226
    by_cases c5 : y226.length + l0_5.length < 17592186044416
    ·rw [if_pos c5] at H
     have LMc5 := Aside0.mk c5
     clear c5
     obtain ⟨y229, hy229⟩ : ∃ y_ : List Int, y_ = (y226 ++ l0_5) := ⟨_, rfl⟩
     replace H : (slabvaultlaw12_own.l0 k 0 a0_0 l0_1 l0_2 l0_3 l0_4 l0_5 a0_0 ([] : List (List Int)) y211 y217 y223 y229) = some (r1, r2, r3, r4, r5, r6) := by first | (rw [hy229]; with_reducible exact H) | (have H2_ := (Option.bind_some _ _).symm.trans H; rw [hy229]; with_reducible exact H2_) | (have H2_ := (Option.bind_some _ _).symm.trans H; with_reducible exact H2_) | with_reducible exact H | (rw [hy229]; exact H) | exact H
     have Ny229 := Aside0.mk hy229
     clear hy229
     have H' := Aside0.mk H
     clear H
     go_enter Try.func21, Try.ntmps21
     try go_wp2_with (first | ((with_reducible refine gate_dst (N := 1) rfl ?_); refine box_event ?hg (N := 1) ?hd (cs := #[.int .i64 a0_0, .slice A0_1 l0_1.length c0_1, .slice A0_2 l0_2.length c0_2, .slice A0_3 l0_3.length c0_3, .slice A0_4 l0_4.length c0_4, .slice A0_5 l0_5.length c0_5]) (t := 33) ?hr ?_; (case hd => rfl); (case hg => rfl); (case hr => first | (go_simp; done) | (go_simp; rfl)); intro gb206 hg w6 hbox hb; have n0_ := Aside0.mk (below_step (HB.out) hb); have n1_ := Aside0.mk (hbox); have n2_ := Aside0.mk ((by rw [hg]; exact (below_size (HB.out)) : w.heap.size ≤ gb206)); have n3_ := Aside0.mk ((by rw [hg]; exact (below_size (HB.out)) : w.heap.size ≤ gb206)); clear HB; have HB := n0_; have BK206 := n1_; have GW206 := n2_; have GE206 := n3_; clear n0_ n1_ n2_ n3_; clear hb hbox hg) | ((with_reducible refine gate_dst (N := 2) rfl ?_); refine box_event ?hg (N := 2) ?hd (cs := #[.int .i64 0, .slice none 0 0, .slice none 0 0, .slice none 0 0, .slice none 0 0, .slice none 0 0]) (t := 33) ?hr ?_; (case hd => rfl); (case hg => rfl); (case hr => first | (go_simp; done) | (go_simp; rfl)); intro gb207 hg w7 hbox hb; have n0_ := Aside0.mk (blk_below (g := gb206) (o := .cells #[.int .i64 a0_0, .slice A0_1 l0_1.length c0_1, .slice A0_2 l0_2.length c0_2, .slice A0_3 l0_3.length c0_3, .slice A0_4 l0_4.length c0_4, .slice A0_5 l0_5.length c0_5] 33 (0, 0)) (by exact BK206.out) hb); have n1_ := Aside0.mk (below_step (HB.out) hb); have n2_ := Aside0.mk (hbox); have n3_ := Aside0.mk ((by rw [hg]; exact (below_size (HB.out)) : w.heap.size ≤ gb207)); have n4_ := Aside0.mk ((by rw [hg]; exact (below_size (HB.out)) : w.heap.size ≤ gb207)); have n5_ := Aside0.mk ((by rw [hg]; exact Nat.ne_of_lt (blk_lt (g := gb206) (o := .cells #[.int .i64 a0_0, .slice A0_1 l0_1.length c0_1, .slice A0_2 l0_2.length c0_2, .slice A0_3 l0_3.length c0_3, .slice A0_4 l0_4.length c0_4, .slice A0_5 l0_5.length c0_5] 33 (0, 0)) (by exact BK206.out)) : gb206 ≠ gb207)); have n6_ := Aside0.mk ((by rw [hg]; exact Nat.ne_of_gt (blk_lt (g := gb206) (o := .cells #[.int .i64 a0_0, .slice A0_1 l0_1.length c0_1, .slice A0_2 l0_2.length c0_2, .slice A0_3 l0_3.length c0_3, .slice A0_4 l0_4.length c0_4, .slice A0_5 l0_5.length c0_5] 33 (0, 0)) (by exact BK206.out)) : gb207 ≠ gb206)); clear BK206; clear HB; have BK206 := n0_; have HB := n1_; have BK207 := n2_; have GW207 := n3_; have GE207 := n4_; have NB206_207 := n5_; have NB207_206 := n6_; clear n0_ n1_ n2_ n3_ n4_ n5_ n6_; clear hb hbox hg))
     have n0_ := Aside0.mk (blk_drew BK206.out)
     have n1_ := Aside0.mk (blk_drew BK207.out)
     have n2_ := Aside0.mk (below_drew1 HB.out)
     clear BK206
     clear BK207
     clear HB
     have BK206 := n0_
     have BK207 := n1_
     have HB := n2_
     clear n0_ n1_ n2_
     refine start_ (n := 21) (S := fun w' => True) (ds := []) #[false, false, false, false, false, false, false, false, false, false, false, false, false, false, false, false, false, false, false, false, false] (by kernel_rfl) rfl rfl trivial (fun hHeld => ?_); refine with_tabW slabvaultlaw12_own.tab1 slabvaultlaw12_own.bits1 (fun HT_ HW_ => ?_)
     generalize w7.drew = w8 at BK206 BK207 HB hHeld ⊢
     refine pure_ (i := 0) (N := some 5) (v := ?_) (a' := ?_) #[true, false, false, false, false, false, false, false, false, false, false, false, false, false, false, false, false, false, false, false, false] rfl rfl (any_of HT_.out (by kernel_rfl)) (fun _ _ _ h => h) (Or.inl ⟨by rfl, ?_⟩) ?_ ?_
     rotate_left
     ·intro w'
      go_simp
      with_reducible rfl
     rotate_left
     ·simp only [Act.put, List.setIfInBounds_toArray, List.set_cons_zero, List.set_cons_succ, i64_w, i32_w]
      rfl
     refine pure_ (i := 3) (N := some 8) (v := ?_) (a' := ?_) #[true, false, false, true, false, false, false, false, false, false, false, false, false, false, false, false, false, false, false, false, false] rfl rfl (any_of HT_.out (by kernel_rfl)) (fun _ _ _ h => h) (Or.inl ⟨by rfl, ?_⟩) ?_ ?_
     rotate_left
     ·intro w'
      go_simp
      with_reducible rfl
     rotate_left
     ·simp only [Act.put, List.setIfInBounds_toArray, List.set_cons_zero, List.set_cons_succ, i64_w, i32_w]
      rfl
     refine pure_ (i := 7) (N := some 12) (v := ?_) (a' := ?_) #[true, false, false, true, false, false, false, true, false, false, false, false, false, false, false, false, false, false, false, false, false] rfl rfl (any_of HT_.out (by kernel_rfl)) (fun _ _ _ h => h) (Or.inl ⟨by rfl, ?_⟩) ?_ ?_
     rotate_left
     ·intro w'
      go_simp
      with_reducible rfl
     rotate_left
     ·simp only [Act.put, List.setIfInBounds_toArray, List.set_cons_zero, List.set_cons_succ, i64_w, i32_w]
      rfl
     refine pure_ (i := 11) (N := some 16) (v := ?_) (a' := ?_) #[true, false, false, true, false, false, false, true, false, false, false, true, false, false, false, false, false, false, false, false, false] rfl rfl (any_of HT_.out (by kernel_rfl)) (fun _ _ _ h => h) (Or.inl ⟨by rfl, ?_⟩) ?_ ?_
     rotate_left
     ·intro w'
      go_simp
      with_reducible rfl
     rotate_left
     ·simp only [Act.put, List.setIfInBounds_toArray, List.set_cons_zero, List.set_cons_succ, i64_w, i32_w]
      rfl
     refine pure_ (i := 15) (N := some 20) (v := ?_) (a' := ?_) #[true, false, false, true, false, false, false, true, false, false, false, true, false, false, false, true, false, false, false, false, false] rfl rfl (any_of HT_.out (by kernel_rfl)) (fun _ _ _ h => h) (Or.inl ⟨by rfl, ?_⟩) ?_ ?_
     rotate_left
     ·intro w'
      go_simp
      with_reducible rfl
     rotate_left
     ·simp only [Act.put, List.setIfInBounds_toArray, List.set_cons_zero, List.set_cons_succ, i64_w, i32_w]
      rfl
     refine inv_at [1, 2, 4, 5, 6, 8, 9, 10, 12, 13, 14, 16, 17, 18, 19, 20] (fun a0_ b a w' => ∃ (v209 : Value) (v212 : Value) (v215 : Value) (v218 : Value) (v221 : Value) (v224 : Value) (v227 : Value) (v230 : Value) (gb232 : Nat) (m18_ : Value) (m19_ : Value), a = putSel a0_ b [(1, 6, .int .i64 a0_0), (2, 7, v209), (4, 9, .slice A0_2 l0_2.length c0_2), (5, 10, v212), (6, 11, v215), (8, 13, .slice A0_3 l0_3.length c0_3), (9, 14, v218), (10, 15, v221), (12, 17, .slice A0_4 l0_4.length c0_4), (13, 18, v224), (14, 19, v227), (16, 21, .slice A0_5 l0_5.length c0_5), (17, 22, v230), (18, 23, m18_), (19, 3, m19_)] ∧ (w'.heap[gb206]? = some (.cells #[.int .i64 a0_0, .slice A0_1 l0_1.length c0_1, .slice A0_2 l0_2.length c0_2, .slice A0_3 l0_3.length c0_3, .slice A0_4 l0_4.length c0_4, .slice A0_5 l0_5.length c0_5] 33 (0, 0))) ∧ (w'.heap[gb207]? = some (.cells #[.int .i64 0, .slice none 0 0, .slice none 0 0, .slice none 0 0, .slice none 0 0, .slice none 0 0] 33 (0, 0))) ∧ (Below w.heap.size w w') ∧ (b 2 = true → b 5 = false → Kd.R (Kd.int .i64) 3 w' w.heap.size (fun k_ => ((b) 6 = true → (b) 9 = false → some k_ ≠ (v215 : Value).ownBlock) ∧ ((b) 9 = true → some k_ ≠ (v218 : Value).ownBlock) ∧ ((b) 10 = true → (b) 13 = false → some k_ ≠ (v221 : Value).ownBlock) ∧ ((b) 13 = true → some k_ ≠ (v224 : Value).ownBlock) ∧ ((b) 14 = true → (b) 17 = false → some k_ ≠ (v227 : Value).ownBlock) ∧ ((b) 17 = true → some k_ ≠ (v230 : Value).ownBlock)) v209 y208) ∧ (b 5 = true → Kd.R (Kd.int .i64) 3 w' w.heap.size (fun k_ => ((b) 6 = true → (b) 9 = false → some k_ ≠ (v215 : Value).ownBlock) ∧ ((b) 9 = true → some k_ ≠ (v218 : Value).ownBlock) ∧ ((b) 10 = true → (b) 13 = false → some k_ ≠ (v221 : Value).ownBlock) ∧ ((b) 13 = true → some k_ ≠ (v224 : Value).ownBlock) ∧ ((b) 14 = true → (b) 17 = false → some k_ ≠ (v227 : Value).ownBlock) ∧ ((b) 17 = true → some k_ ≠ (v230 : Value).ownBlock)) v212 y211) ∧ (b 6 = true → b 9 = false → Kd.R (Kd.int .i64) 3 w' w.heap.size (fun k_ => ((b) 2 = true → (b) 5 = false → some k_ ≠ (v209 : Value).ownBlock) ∧ ((b) 5 = true → some k_ ≠ (v212 : Value).ownBlock) ∧ ((b) 10 = true → (b) 13 = false → some k_ ≠ (v221 : Value).ownBlock) ∧ ((b) 13 = true → some k_ ≠ (v224 : Value).ownBlock) ∧ ((b) 14 = true → (b) 17 = false → some k_ ≠ (v227 : Value).ownBlock) ∧ ((b) 17 = true → some k_ ≠ (v230 : Value).ownBlock)) v215 y214) ∧ (b 9 = true → Kd.R (Kd.int .i64) 3 w' w.heap.size (fun k_ => ((b) 2 = true → (b) 5 = false → some k_ ≠ (v209 : Value).ownBlock) ∧ ((b) 5 = true → some k_ ≠ (v212 : Value).ownBlock) ∧ ((b) 10 = true → (b) 13 = false → some k_ ≠ (v221 : Value).ownBlock) ∧ ((b) 13 = true → some k_ ≠ (v224 : Value).ownBlock) ∧ ((b) 14 = true → (b) 17 = false → some k_ ≠ (v227 : Value).ownBlock) ∧ ((b) 17 = true → some k_ ≠ (v230 : Value).ownBlock)) v218 y217) ∧ (b 10 = true → b 13 = false → Kd.R (Kd.int .i64) 3 w' w.heap.size (fun k_ => ((b) 2 = true → (b) 5 = false → some k_ ≠ (v209 : Value).ownBlock) ∧ ((b) 5 = true → some k_ ≠ (v212 : Value).ownBlock) ∧ ((b) 6 = true → (b) 9 = false → some k_ ≠ (v215 : Value).ownBlock) ∧ ((b) 9 = true → some k_ ≠ (v218 : Value).ownBlock) ∧ ((b) 14 = true → (b) 17 = false → some k_ ≠ (v227 : Value).ownBlock) ∧ ((b) 17 = true → some k_ ≠ (v230 : Value).ownBlock)) v221 y220) ∧ (b 13 = true → Kd.R (Kd.int .i64) 3 w' w.heap.size (fun k_ => ((b) 2 = true → (b) 5 = false → some k_ ≠ (v209 : Value).ownBlock) ∧ ((b) 5 = true → some k_ ≠ (v212 : Value).ownBlock) ∧ ((b) 6 = true → (b) 9 = false → some k_ ≠ (v215 : Value).ownBlock) ∧ ((b) 9 = true → some k_ ≠ (v218 : Value).ownBlock) ∧ ((b) 14 = true → (b) 17 = false → some k_ ≠ (v227 : Value).ownBlock) ∧ ((b) 17 = true → some k_ ≠ (v230 : Value).ownBlock)) v224 y223) ∧ (b 14 = true → b 17 = false → Kd.R (Kd.int .i64) 3 w' w.heap.size (fun k_ => ((b) 2 = true → (b) 5 = false → some k_ ≠ (v209 : Value).ownBlock) ∧ ((b) 5 = true → some k_ ≠ (v212 : Value).ownBlock) ∧ ((b) 6 = true → (b) 9 = false → some k_ ≠ (v215 : Value).ownBlock) ∧ ((b) 9 = true → some k_ ≠ (v218 : Value).ownBlock) ∧ ((b) 10 = true → (b) 13 = false → some k_ ≠ (v221 : Value).ownBlock) ∧ ((b) 13 = true → some k_ ≠ (v224 : Value).ownBlock)) v227 y226) ∧ (b 17 = true → Kd.R (Kd.int .i64) 3 w' w.heap.size (fun k_ => ((b) 2 = true → (b) 5 = false → some k_ ≠ (v209 : Value).ownBlock) ∧ ((b) 5 = true → some k_ ≠ (v212 : Value).ownBlock) ∧ ((b) 6 = true → (b) 9 = false → some k_ ≠ (v215 : Value).ownBlock) ∧ ((b) 9 = true → some k_ ≠ (v218 : Value).ownBlock) ∧ ((b) 10 = true → (b) 13 = false → some k_ ≠ (v221 : Value).ownBlock) ∧ ((b) 13 = true → some k_ ≠ (v224 : Value).ownBlock)) v230 y229) ∧ (b 19 = true → b 20 = false → w'.heap[gb232]? = some (.cells #[.int .i64 0, .slice none 0 0, .slice none 0 0, .slice none 0 0, .slice none 0 0, .slice none 0 0] 33 (0, 0))) ∧ (b 19 = true → w.heap.size ≤ gb232) ∧ (b 19 = true → w.heap.size ≤ gb232) ∧ (b 19 = true → gb206 ≠ gb232) ∧ (b 19 = true → gb232 ≠ gb206) ∧ (b 19 = true → gb207 ≠ gb232) ∧ (b 19 = true → gb232 ≠ gb207) ∧ (b 20 = true → w'.heap[gb232]? = some (.cells #[.int .i64 a0_0, .slice none 0 0, v212, v218, v224, v230] 33 (0, 0))) ∧ (b 18 = true → (m18_ : Value) = .agg #[.int .i64 a0_0, .slice none 0 0, v212, v218, v224, v230]) ∧ (b 19 = true → (m19_ : Value) = .pointer (some ⟨gb232, 0, none⟩))) HT_.out HW_.out (by kernel_rfl) (by kernel_rfl) ?_ ?_ ?_
     ·exact ⟨.bool false, .bool false, .bool false, .bool false, .bool false, .bool false, .bool false, .bool false, 0, .bool false, .bool false, by simp only [putSel, Bool.false_eq_true, if_false], BK206.out, BK207.out, HB.out, fun h_ => absurd h_ (by decide), fun h_ => absurd h_ (by decide), fun h_ => absurd h_ (by decide), fun h_ => absurd h_ (by decide), fun h_ => absurd h_ (by decide), fun h_ => absurd h_ (by decide), fun h_ => absurd h_ (by decide), fun h_ => absurd h_ (by decide), fun h_ => absurd h_ (by decide), fun h_ => absurd h_ (by decide), fun h_ => absurd h_ (by decide), fun h_ => absurd h_ (by decide), fun h_ => absurd h_ (by decide), fun h_ => absurd h_ (by decide), fun h_ => absurd h_ (by decide), fun h_ => absurd h_ (by decide), fun h_ => absurd h_ (by decide), fun h_ => absurd h_ (by decide)⟩
     ·skip
      clear BK206 BK207 HB
      refine steps_cons ?_ ?_
      ·rintro b a w' ⟨v209, v212, v215, v218, v221, v224, v227, v230, gb232, m18_, m19_, ha, Q_BK206, Q_BK207, Q_HB, Q_HO210, Q_HO213, Q_HO216, Q_HO219, Q_HO222, Q_HO225, Q_HO228, Q_HO231, Q_BK232, Q_GW232, Q_GE232, Q_NB206_232, Q_NB232_206, Q_NB207_232, Q_NB232_207, Q_BK232_e20, Q_X18_, Q_X19_⟩ hb_ hon hoff
       refine ⟨_, rfl, fun K hK => ?_⟩
       have e5 : a.tmps[5]? = some (.pointer (some ⟨gb206, 0, none⟩)) := by rw [ha]; exact (putSel_off rfl).trans rfl
       replace ha := Aside0.mk ha
       have BK206 := Aside0.mk Q_BK206
       have BK207 := Aside0.mk Q_BK207
       have HB := Aside0.mk Q_HB
       have hc0_ : w'.cell? ⟨gb206, 0, none⟩ = some (.int .i64 a0_0) := (blk_cell BK206.out 0).trans rfl
       have hc1_ : w'.cell? ⟨gb206, 1, none⟩ = some (.slice A0_1 l0_1.length c0_1) := (blk_cell BK206.out 1).trans rfl
       have hc2_ : w'.cell? ⟨gb206, 2, none⟩ = some (.slice A0_2 l0_2.length c0_2) := (blk_cell BK206.out 2).trans rfl
       have hc3_ : w'.cell? ⟨gb206, 3, none⟩ = some (.slice A0_3 l0_3.length c0_3) := (blk_cell BK206.out 3).trans rfl
       have hc4_ : w'.cell? ⟨gb206, 4, none⟩ = some (.slice A0_4 l0_4.length c0_4) := (blk_cell BK206.out 4).trans rfl
       have hc5_ : w'.cell? ⟨gb206, 5, none⟩ = some (.slice A0_5 l0_5.length c0_5) := (blk_cell BK206.out 5).trans rfl
       refine value_ (w1 := w') (v := .int .i64 a0_0) (by rfl) rfl ?_ ?_
       ·go_simp
        (try simp only [i64_w])
        try rfl
       refine hK.out _ _ ⟨v209, v212, v215, v218, v221, v224, v227, v230, gb232, m18_, m19_, (by rw [ha.out]; exact putSel_upk 0 hb_ rfl rfl rfl), Q_BK206, Q_BK207, Q_HB, Q_HO210, Q_HO213, Q_HO216, Q_HO219, Q_HO222, Q_HO225, Q_HO228, Q_HO231, Q_BK232, Q_GW232, Q_GE232, Q_NB206_232, Q_NB232_206, Q_NB207_232, Q_NB232_207, fun h0_ => absurd ((hoff 20 (by kernel_rfl)).symm.trans h0_) (by decide), fun h0_ => absurd ((hoff 18 (by kernel_rfl)).symm.trans h0_) (by decide), Q_X19_⟩
      refine steps_cons ?_ ?_
      ·rintro b a w' ⟨v209, v212, v215, v218, v221, v224, v227, v230, gb232, m18_, m19_, ha, Q_BK206, Q_BK207, Q_HB, Q_HO210, Q_HO213, Q_HO216, Q_HO219, Q_HO222, Q_HO225, Q_HO228, Q_HO231, Q_BK232, Q_GW232, Q_GE232, Q_NB206_232, Q_NB232_206, Q_NB207_232, Q_NB232_207, Q_BK232_e20, Q_X18_, Q_X19_⟩ hb_ hon hoff
       refine ⟨_, rfl, fun K hK => ?_⟩
       replace ha := Aside0.mk ha
       have BK206 := Aside0.mk Q_BK206
       have BK207 := Aside0.mk Q_BK207
       have HB := Aside0.mk Q_HB
       refine Kd.R_lit_step (Kd.int .i64) _ 3 ?hg (N := 7) ?hd (xs := ([] : List Int)) (inner := []) (ok := fun _ => True) (okp := fun _ => True) ?hr ?hp (fun _ hk => hk) trivial (Below.refl _ _) (Nat.le_refl _) (by simp) ?_; (case hd => rfl); (case hg => rfl); (case hr => first | (go_simp; done) | (go_simp; rfl)); (case hp => exact (Reps.none _ _))
       intro v209 w9 ho10 hb hg_ hnew_
       clear hg_ hnew_
       (first | rw [← Ny208.out] at ho10 | (simp only [Int.reduceToNat] at ho10; rw [← Ny208.out] at ho10))
       have n0_ := Aside0.mk (Kd.R_lower ho10 (below_size (HB.out)))
       have NX_ := Aside0.mk (R_as (ok := (fun k_ => ((up b 2) 6 = true → (up b 2) 9 = false → some k_ ≠ (v215 : Value).ownBlock) ∧ ((up b 2) 9 = true → some k_ ≠ (v218 : Value).ownBlock) ∧ ((up b 2) 10 = true → (up b 2) 13 = false → some k_ ≠ (v221 : Value).ownBlock) ∧ ((up b 2) 13 = true → some k_ ≠ (v224 : Value).ownBlock) ∧ ((up b 2) 14 = true → (up b 2) 17 = false → some k_ ≠ (v227 : Value).ownBlock) ∧ ((up b 2) 17 = true → some k_ ≠ (v230 : Value).ownBlock))) n0_.out (fun k_ hk => ⟨fun h0_ h1_ => (by intro e_; have l1_ := Kd.R_lt (Q_HO216 h0_ h1_) k_ e_.symm; have l2_ := Kd.R_base ho10 k_ hk; omega), fun h0_ => (by intro e_; have l1_ := Kd.R_lt (Q_HO219 h0_) k_ e_.symm; have l2_ := Kd.R_base ho10 k_ hk; omega), fun h0_ h1_ => (by intro e_; have l1_ := Kd.R_lt (Q_HO222 h0_ h1_) k_ e_.symm; have l2_ := Kd.R_base ho10 k_ hk; omega), fun h0_ => (by intro e_; have l1_ := Kd.R_lt (Q_HO225 h0_) k_ e_.symm; have l2_ := Kd.R_base ho10 k_ hk; omega), fun h0_ h1_ => (by intro e_; have l1_ := Kd.R_lt (Q_HO228 h0_ h1_) k_ e_.symm; have l2_ := Kd.R_base ho10 k_ hk; omega), fun h0_ => (by intro e_; have l1_ := Kd.R_lt (Q_HO231 h0_) k_ e_.symm; have l2_ := Kd.R_base ho10 k_ hk; omega)⟩))
       have n1_ := Aside0.mk (blk_below (g := gb206) (o := .cells #[.int .i64 a0_0, .slice A0_1 l0_1.length c0_1, .slice A0_2 l0_2.length c0_2, .slice A0_3 l0_3.length c0_3, .slice A0_4 l0_4.length c0_4, .slice A0_5 l0_5.length c0_5] 33 (0, 0)) (by exact BK206.out) hb)
       have n2_ := Aside0.mk (blk_below (g := gb207) (o := .cells #[.int .i64 0, .slice none 0 0, .slice none 0 0, .slice none 0 0, .slice none 0 0, .slice none 0 0] 33 (0, 0)) (by exact BK207.out) hb)
       have n3_ := Aside0.mk (below_step (HB.out) hb)
       have z_HO216 := fun (h0_ : b 6 = true) (h1_ : b 9 = false) => (show Kd.R (Kd.int .i64) 3 w9 w.heap.size (fun k_ => ((up b 2) 2 = true → (up b 2) 5 = false → some k_ ≠ (v209 : Value).ownBlock) ∧ ((up b 2) 5 = true → some k_ ≠ (v212 : Value).ownBlock) ∧ ((up b 2) 10 = true → (up b 2) 13 = false → some k_ ≠ (v221 : Value).ownBlock) ∧ ((up b 2) 13 = true → some k_ ≠ (v224 : Value).ownBlock) ∧ ((up b 2) 14 = true → (up b 2) 17 = false → some k_ ≠ (v227 : Value).ownBlock) ∧ ((up b 2) 17 = true → some k_ ≠ (v230 : Value).ownBlock)) v215 y214 from Kd.R_mono (Kd.R_elder' (Q_HO216 h0_ h1_) (Kd.R_base ho10) hb) (fun k_ hk => ⟨fun _ _ => hk.2, fun h2_ => absurd ((hoff 5 (by kernel_rfl)).symm.trans h2_) (by decide), hk.1.2.2.1, hk.1.2.2.2.1, hk.1.2.2.2.2.1, hk.1.2.2.2.2.2⟩))
       have z_HO222 := fun (h0_ : b 10 = true) (h1_ : b 13 = false) => (show Kd.R (Kd.int .i64) 3 w9 w.heap.size (fun k_ => ((up b 2) 2 = true → (up b 2) 5 = false → some k_ ≠ (v209 : Value).ownBlock) ∧ ((up b 2) 5 = true → some k_ ≠ (v212 : Value).ownBlock) ∧ ((up b 2) 6 = true → (up b 2) 9 = false → some k_ ≠ (v215 : Value).ownBlock) ∧ ((up b 2) 9 = true → some k_ ≠ (v218 : Value).ownBlock) ∧ ((up b 2) 14 = true → (up b 2) 17 = false → some k_ ≠ (v227 : Value).ownBlock) ∧ ((up b 2) 17 = true → some k_ ≠ (v230 : Value).ownBlock)) v221 y220 from Kd.R_mono (Kd.R_elder' (Q_HO222 h0_ h1_) (Kd.R_base ho10) hb) (fun k_ hk => ⟨fun _ _ => hk.2, fun h2_ => absurd ((hoff 5 (by kernel_rfl)).symm.trans h2_) (by decide), hk.1.2.2.1, hk.1.2.2.2.1, hk.1.2.2.2.2.1, hk.1.2.2.2.2.2⟩))
       have z_HO228 := fun (h0_ : b 14 = true) (h1_ : b 17 = false) => (show Kd.R (Kd.int .i64) 3 w9 w.heap.size (fun k_ => ((up b 2) 2 = true → (up b 2) 5 = false → some k_ ≠ (v209 : Value).ownBlock) ∧ ((up b 2) 5 = true → some k_ ≠ (v212 : Value).ownBlock) ∧ ((up b 2) 6 = true → (up b 2) 9 = false → some k_ ≠ (v215 : Value).ownBlock) ∧ ((up b 2) 9 = true → some k_ ≠ (v218 : Value).ownBlock) ∧ ((up b 2) 10 = true → (up b 2) 13 = false → some k_ ≠ (v221 : Value).ownBlock) ∧ ((up b 2) 13 = true → some k_ ≠ (v224 : Value).ownBlock)) v227 y226 from Kd.R_mono (Kd.R_elder' (Q_HO228 h0_ h1_) (Kd.R_base ho10) hb) (fun k_ hk => ⟨fun _ _ => hk.2, fun h2_ => absurd ((hoff 5 (by kernel_rfl)).symm.trans h2_) (by decide), hk.1.2.2.1, hk.1.2.2.2.1, hk.1.2.2.2.2.1, hk.1.2.2.2.2.2⟩))
       have z_BK232 := fun (h0_ : b 19 = true) (h1_ : b 20 = false) => (show w9.heap[gb232]? = some (.cells #[.int .i64 0, .slice none 0 0, .slice none 0 0, .slice none 0 0, .slice none 0 0, .slice none 0 0] 33 (0, 0)) from by first | exact (blk_below (g := gb232) (o := .cells #[.int .i64 0, .slice none 0 0, .slice none 0 0, .slice none 0 0, .slice none 0 0, .slice none 0 0] 33 (0, 0)) (by exact (Q_BK232 h0_ h1_)) hb))
       clear BK206
       clear BK207
       clear HB
       have HO210 := n0_
       have BK206 := n1_
       have BK207 := n2_
       have HB := n3_
       clear n0_ n1_ n2_ n3_
       clear hb ho10
       refine hK.out _ _ ⟨v209, v212, v215, v218, v221, v224, v227, v230, gb232, m18_, m19_, (by rw [ha.out]; exact putSel_upk 1 hb_ rfl rfl rfl), (by exact BK206.out), (by exact BK207.out), (HB.out), fun _ _ => (by exact NX_.out), fun h0_ => absurd ((hoff 5 (by kernel_rfl)).symm.trans h0_) (by decide), z_HO216, fun h0_ => absurd ((hoff 9 (by kernel_rfl)).symm.trans h0_) (by decide), z_HO222, fun h0_ => absurd ((hoff 13 (by kernel_rfl)).symm.trans h0_) (by decide), z_HO228, fun h0_ => absurd ((hoff 17 (by kernel_rfl)).symm.trans h0_) (by decide), z_BK232, Q_GW232, Q_GE232, Q_NB206_232, Q_NB232_206, Q_NB207_232, Q_NB232_207, fun h0_ => absurd ((hoff 20 (by kernel_rfl)).symm.trans h0_) (by decide), fun h0_ => absurd ((hoff 18 (by kernel_rfl)).symm.trans h0_) (by decide), Q_X19_⟩
      refine steps_cons ?_ ?_
      ·rintro b a w' ⟨v209, v212, v215, v218, v221, v224, v227, v230, gb232, m18_, m19_, ha, Q_BK206, Q_BK207, Q_HB, Q_HO210, Q_HO213, Q_HO216, Q_HO219, Q_HO222, Q_HO225, Q_HO228, Q_HO231, Q_BK232, Q_GW232, Q_GE232, Q_NB206_232, Q_NB232_206, Q_NB207_232, Q_NB232_207, Q_BK232_e20, Q_X18_, Q_X19_⟩ hb_ hon hoff
       refine ⟨_, rfl, fun K hK => ?_⟩
       have e8 : a.tmps[8]? = some (.pointer (some ⟨gb206, 2, none⟩)) := by rw [ha]; exact (putSel_off rfl).trans rfl
       replace ha := Aside0.mk ha
       have BK206 := Aside0.mk Q_BK206
       have BK207 := Aside0.mk Q_BK207
       have HB := Aside0.mk Q_HB
       have hc0_ : w'.cell? ⟨gb206, 0, none⟩ = some (.int .i64 a0_0) := (blk_cell BK206.out 0).trans rfl
       have hc1_ : w'.cell? ⟨gb206, 1, none⟩ = some (.slice A0_1 l0_1.length c0_1) := (blk_cell BK206.out 1).trans rfl
       have hc2_ : w'.cell? ⟨gb206, 2, none⟩ = some (.slice A0_2 l0_2.length c0_2) := (blk_cell BK206.out 2).trans rfl
       have hc3_ : w'.cell? ⟨gb206, 3, none⟩ = some (.slice A0_3 l0_3.length c0_3) := (blk_cell BK206.out 3).trans rfl
       have hc4_ : w'.cell? ⟨gb206, 4, none⟩ = some (.slice A0_4 l0_4.length c0_4) := (blk_cell BK206.out 4).trans rfl
       have hc5_ : w'.cell? ⟨gb206, 5, none⟩ = some (.slice A0_5 l0_5.length c0_5) := (blk_cell BK206.out 5).trans rfl
       refine value_ (w1 := w') (v := .slice A0_2 l0_2.length c0_2) (by rfl) rfl ?_ ?_
       ·go_simp
        (try simp only [i64_w])
        try rfl
       refine hK.out _ _ ⟨v209, v212, v215, v218, v221, v224, v227, v230, gb232, m18_, m19_, (by rw [ha.out]; exact putSel_upk 2 hb_ rfl rfl rfl), Q_BK206, Q_BK207, Q_HB, Q_HO210, fun h0_ => absurd ((hoff 5 (by kernel_rfl)).symm.trans h0_) (by decide), Q_HO216, fun h0_ => absurd ((hoff 9 (by kernel_rfl)).symm.trans h0_) (by decide), Q_HO222, fun h0_ => absurd ((hoff 13 (by kernel_rfl)).symm.trans h0_) (by decide), Q_HO228, fun h0_ => absurd ((hoff 17 (by kernel_rfl)).symm.trans h0_) (by decide), Q_BK232, Q_GW232, Q_GE232, Q_NB206_232, Q_NB232_206, Q_NB207_232, Q_NB232_207, fun h0_ => absurd ((hoff 20 (by kernel_rfl)).symm.trans h0_) (by decide), fun h0_ => absurd ((hoff 18 (by kernel_rfl)).symm.trans h0_) (by decide), Q_X19_⟩
      refine steps_cons ?_ ?_
      ·rintro b a w' ⟨v209, v212, v215, v218, v221, v224, v227, v230, gb232, m18_, m19_, ha, Q_BK206, Q_BK207, Q_HB, Q_HO210, Q_HO213, Q_HO216, Q_HO219, Q_HO222, Q_HO225, Q_HO228, Q_HO231, Q_BK232, Q_GW232, Q_GE232, Q_NB206_232, Q_NB232_206, Q_NB207_232, Q_NB232_207, Q_BK232_e20, Q_X18_, Q_X19_⟩ hb_ hon hoff
       refine ⟨_, rfl, fun K hK => ?_⟩
       have e7 : a.tmps[7]? = some (v209) := by rw [ha]; exact putSel_on (e := (2, 7, v209)) 1 rfl rfl (hon 2 (by kernel_rfl)) rfl
       have e9 : a.tmps[9]? = some (.slice A0_2 l0_2.length c0_2) := by rw [ha]; exact putSel_on (e := (4, 9, .slice A0_2 l0_2.length c0_2)) 2 rfl rfl (hon 4 (by kernel_rfl)) rfl
       replace ha := Aside0.mk ha
       have BK206 := Aside0.mk Q_BK206
       have BK207 := Aside0.mk Q_BK207
       have HB := Aside0.mk Q_HB
       have K_HO210 := Aside0.mk (Q_HO210 (hon 2 (by kernel_rfl)) hb_)
       have HO210 := Aside0.mk (Kd.R_mono K_HO210.out (ok' := fun _ => True) (fun _ _ => trivial))
       refine Kd.R_append_rows_step (Kd.int .i64) (w0 := w) w.heap.size (by rfl) (.tmp 7) (.tmp 9) 22 3 (.int .i64 0) 8 rfl Try.underlying22 info3 rfl (by decide) (by omega) v209 y208 l0_2 _ _ _ (fun _ => True) (fun _ => False) (by first | rfl | exact eval_of e7) (by first | rfl | exact eval_of e9) ?aO ?aR (fun _ _ h => h) (fun _ h => h.elim) ?aF ?aB ?aS ?aL ?_
       (case aR => repeat (first | exact (Kd.C_below HR0_2.out HB.out) | (with_reducible refine Kd.C_alloc ?_ _) | (with_reducible refine Kd.C_drewN ?_ _) | (with_reducible refine Kd.C_drew ?_)))
       (case aB => exact (HB.out))
       (case aF => exact (fun _ _ => trivial))
       (case aO => exact HO210.out)
       (case aS => exact (below_size (HB.out)))
       (case aL => have := LMc2.out; omega)
       intro v212 w12 ho hb hg hat
       rw [← Ny211.out] at ho
       have NX_ := Aside0.mk (R_as (ok := (fun k_ => ((up b 5) 6 = true → (up b 5) 9 = false → some k_ ≠ (v215 : Value).ownBlock) ∧ ((up b 5) 9 = true → some k_ ≠ (v218 : Value).ownBlock) ∧ ((up b 5) 10 = true → (up b 5) 13 = false → some k_ ≠ (v221 : Value).ownBlock) ∧ ((up b 5) 13 = true → some k_ ≠ (v224 : Value).ownBlock) ∧ ((up b 5) 14 = true → (up b 5) 17 = false → some k_ ≠ (v227 : Value).ownBlock) ∧ ((up b 5) 17 = true → some k_ ≠ (v230 : Value).ownBlock))) ho (fun k_ hk => ⟨fun h0_ h1_ => (hat.elim (fun e1_ => (K_HO210.out.1 k_ (e1_ ▸ hk)).1 h0_ h1_) (fun ⟨b1_, e1_, e2_⟩ e_ => by have l1_ := Kd.R_lt (Q_HO216 h0_ h1_) k_ e_.symm; rw [e1_] at hk; cases hk; omega)), fun h0_ => (hat.elim (fun e1_ => (K_HO210.out.1 k_ (e1_ ▸ hk)).2.1 h0_) (fun ⟨b1_, e1_, e2_⟩ e_ => by have l1_ := Kd.R_lt (Q_HO219 h0_) k_ e_.symm; rw [e1_] at hk; cases hk; omega)), fun h0_ h1_ => (hat.elim (fun e1_ => (K_HO210.out.1 k_ (e1_ ▸ hk)).2.2.1 h0_ h1_) (fun ⟨b1_, e1_, e2_⟩ e_ => by have l1_ := Kd.R_lt (Q_HO222 h0_ h1_) k_ e_.symm; rw [e1_] at hk; cases hk; omega)), fun h0_ => (hat.elim (fun e1_ => (K_HO210.out.1 k_ (e1_ ▸ hk)).2.2.2.1 h0_) (fun ⟨b1_, e1_, e2_⟩ e_ => by have l1_ := Kd.R_lt (Q_HO225 h0_) k_ e_.symm; rw [e1_] at hk; cases hk; omega)), fun h0_ h1_ => (hat.elim (fun e1_ => (K_HO210.out.1 k_ (e1_ ▸ hk)).2.2.2.2.1 h0_ h1_) (fun ⟨b1_, e1_, e2_⟩ e_ => by have l1_ := Kd.R_lt (Q_HO228 h0_ h1_) k_ e_.symm; rw [e1_] at hk; cases hk; omega)), fun h0_ => (hat.elim (fun e1_ => (K_HO210.out.1 k_ (e1_ ▸ hk)).2.2.2.2.2 h0_) (fun ⟨b1_, e1_, e2_⟩ e_ => by have l1_ := Kd.R_lt (Q_HO231 h0_) k_ e_.symm; rw [e1_] at hk; cases hk; omega))⟩))
       have n0_ := Aside0.mk (blk_grown (g := gb206) (o := .cells #[.int .i64 a0_0, .slice A0_1 l0_1.length c0_1, .slice A0_2 l0_2.length c0_2, .slice A0_3 l0_3.length c0_3, .slice A0_4 l0_4.length c0_4, .slice A0_5 l0_5.length c0_5] 33 (0, 0)) (by exact BK206.out) hg (Kd.R_ne HO210.out BK206.out (by decide)))
       have n1_ := Aside0.mk (blk_grown (g := gb207) (o := .cells #[.int .i64 0, .slice none 0 0, .slice none 0 0, .slice none 0 0, .slice none 0 0, .slice none 0 0] 33 (0, 0)) (by exact BK207.out) hg (Kd.R_ne HO210.out BK207.out (by decide)))
       have n2_ := Aside0.mk (hb)
       have n3_ := Aside0.mk (ho)
       have z_HO216 := fun (h0_ : b 6 = true) (h1_ : b 9 = false) => (show Kd.R (Kd.int .i64) 3 w12 w.heap.size (fun k_ => ((up b 5) 2 = true → (up b 5) 5 = false → some k_ ≠ (v209 : Value).ownBlock) ∧ ((up b 5) 5 = true → some k_ ≠ (v212 : Value).ownBlock) ∧ ((up b 5) 10 = true → (up b 5) 13 = false → some k_ ≠ (v221 : Value).ownBlock) ∧ ((up b 5) 13 = true → some k_ ≠ (v224 : Value).ownBlock) ∧ ((up b 5) 14 = true → (up b 5) 17 = false → some k_ ≠ (v227 : Value).ownBlock) ∧ ((up b 5) 17 = true → some k_ ≠ (v230 : Value).ownBlock)) v215 y214 from Kd.R_mono (Kd.R_after (ok := (fun k_ => ((b) 10 = true → (b) 13 = false → some k_ ≠ (v221 : Value).ownBlock) ∧ ((b) 13 = true → some k_ ≠ (v224 : Value).ownBlock) ∧ ((b) 14 = true → (b) 17 = false → some k_ ≠ (v227 : Value).ownBlock) ∧ ((b) 17 = true → some k_ ≠ (v230 : Value).ownBlock))) (Kd.R_mono (Q_HO216 h0_ h1_) (fun k_ hk => ⟨⟨hk.2.2.1, hk.2.2.2.1, hk.2.2.2.2.1, hk.2.2.2.2.2⟩, (hk.1) (hon 2 (by kernel_rfl)) hb_⟩)) hg hat) (fun k_ hk => ⟨fun _ h2_ => absurd ((up_self b 5).symm.trans h2_) (by decide), fun _ => hk.2, hk.1.1, hk.1.2.1, hk.1.2.2.1, hk.1.2.2.2⟩))
       have z_HO222 := fun (h0_ : b 10 = true) (h1_ : b 13 = false) => (show Kd.R (Kd.int .i64) 3 w12 w.heap.size (fun k_ => ((up b 5) 2 = true → (up b 5) 5 = false → some k_ ≠ (v209 : Value).ownBlock) ∧ ((up b 5) 5 = true → some k_ ≠ (v212 : Value).ownBlock) ∧ ((up b 5) 6 = true → (up b 5) 9 = false → some k_ ≠ (v215 : Value).ownBlock) ∧ ((up b 5) 9 = true → some k_ ≠ (v218 : Value).ownBlock) ∧ ((up b 5) 14 = true → (up b 5) 17 = false → some k_ ≠ (v227 : Value).ownBlock) ∧ ((up b 5) 17 = true → some k_ ≠ (v230 : Value).ownBlock)) v221 y220 from Kd.R_mono (Kd.R_after (ok := (fun k_ => ((b) 6 = true → (b) 9 = false → some k_ ≠ (v215 : Value).ownBlock) ∧ ((b) 9 = true → some k_ ≠ (v218 : Value).ownBlock) ∧ ((b) 14 = true → (b) 17 = false → some k_ ≠ (v227 : Value).ownBlock) ∧ ((b) 17 = true → some k_ ≠ (v230 : Value).ownBlock))) (Kd.R_mono (Q_HO222 h0_ h1_) (fun k_ hk => ⟨⟨hk.2.2.1, hk.2.2.2.1, hk.2.2.2.2.1, hk.2.2.2.2.2⟩, (hk.1) (hon 2 (by kernel_rfl)) hb_⟩)) hg hat) (fun k_ hk => ⟨fun _ h2_ => absurd ((up_self b 5).symm.trans h2_) (by decide), fun _ => hk.2, hk.1.1, hk.1.2.1, hk.1.2.2.1, hk.1.2.2.2⟩))
       have z_HO228 := fun (h0_ : b 14 = true) (h1_ : b 17 = false) => (show Kd.R (Kd.int .i64) 3 w12 w.heap.size (fun k_ => ((up b 5) 2 = true → (up b 5) 5 = false → some k_ ≠ (v209 : Value).ownBlock) ∧ ((up b 5) 5 = true → some k_ ≠ (v212 : Value).ownBlock) ∧ ((up b 5) 6 = true → (up b 5) 9 = false → some k_ ≠ (v215 : Value).ownBlock) ∧ ((up b 5) 9 = true → some k_ ≠ (v218 : Value).ownBlock) ∧ ((up b 5) 10 = true → (up b 5) 13 = false → some k_ ≠ (v221 : Value).ownBlock) ∧ ((up b 5) 13 = true → some k_ ≠ (v224 : Value).ownBlock)) v227 y226 from Kd.R_mono (Kd.R_after (ok := (fun k_ => ((b) 6 = true → (b) 9 = false → some k_ ≠ (v215 : Value).ownBlock) ∧ ((b) 9 = true → some k_ ≠ (v218 : Value).ownBlock) ∧ ((b) 10 = true → (b) 13 = false → some k_ ≠ (v221 : Value).ownBlock) ∧ ((b) 13 = true → some k_ ≠ (v224 : Value).ownBlock))) (Kd.R_mono (Q_HO228 h0_ h1_) (fun k_ hk => ⟨⟨hk.2.2.1, hk.2.2.2.1, hk.2.2.2.2.1, hk.2.2.2.2.2⟩, (hk.1) (hon 2 (by kernel_rfl)) hb_⟩)) hg hat) (fun k_ hk => ⟨fun _ h2_ => absurd ((up_self b 5).symm.trans h2_) (by decide), fun _ => hk.2, hk.1.1, hk.1.2.1, hk.1.2.2.1, hk.1.2.2.2⟩))
       have z_BK232 := fun (h0_ : b 19 = true) (h1_ : b 20 = false) => (show w12.heap[gb232]? = some (.cells #[.int .i64 0, .slice none 0 0, .slice none 0 0, .slice none 0 0, .slice none 0 0, .slice none 0 0] 33 (0, 0)) from by first | exact (blk_grown (g := gb232) (o := .cells #[.int .i64 0, .slice none 0 0, .slice none 0 0, .slice none 0 0, .slice none 0 0, .slice none 0 0] 33 (0, 0)) (by exact (Q_BK232 h0_ h1_)) hg (Kd.R_ne HO210.out (Q_BK232 h0_ h1_) (by decide))))
       clear BK206
       clear BK207
       clear HB
       clear HO210
       have BK206 := n0_
       have BK207 := n1_
       have HB := n2_
       have HO213 := n3_
       clear n0_ n1_ n2_ n3_
       clear ho hb hg hat
       refine hK.out _ _ ⟨v209, v212, v215, v218, v221, v224, v227, v230, gb232, m18_, m19_, (by rw [ha.out]; exact putSel_upk 3 hb_ rfl rfl rfl), (by exact BK206.out), (by exact BK207.out), (HB.out), fun _ h1_ => absurd ((up_self b 5).symm.trans h1_) (by decide), fun _ => (by exact NX_.out), z_HO216, fun h0_ => absurd ((hoff 9 (by kernel_rfl)).symm.trans h0_) (by decide), z_HO222, fun h0_ => absurd ((hoff 13 (by kernel_rfl)).symm.trans h0_) (by decide), z_HO228, fun h0_ => absurd ((hoff 17 (by kernel_rfl)).symm.trans h0_) (by decide), z_BK232, Q_GW232, Q_GE232, Q_NB206_232, Q_NB232_206, Q_NB207_232, Q_NB232_207, fun h0_ => absurd ((hoff 20 (by kernel_rfl)).symm.trans h0_) (by decide), fun h0_ => absurd ((hoff 18 (by kernel_rfl)).symm.trans h0_) (by decide), Q_X19_⟩
      refine steps_cons ?_ ?_
      ·rintro b a w' ⟨v209, v212, v215, v218, v221, v224, v227, v230, gb232, m18_, m19_, ha, Q_BK206, Q_BK207, Q_HB, Q_HO210, Q_HO213, Q_HO216, Q_HO219, Q_HO222, Q_HO225, Q_HO228, Q_HO231, Q_BK232, Q_GW232, Q_GE232, Q_NB206_232, Q_NB232_206, Q_NB207_232, Q_NB232_207, Q_BK232_e20, Q_X18_, Q_X19_⟩ hb_ hon hoff
       refine ⟨_, rfl, fun K hK => ?_⟩
       replace ha := Aside0.mk ha
       have BK206 := Aside0.mk Q_BK206
       have BK207 := Aside0.mk Q_BK207
       have HB := Aside0.mk Q_HB
       refine Kd.R_lit_step (Kd.int .i64) _ 3 ?hg (N := 11) ?hd (xs := ([] : List Int)) (inner := []) (ok := fun _ => True) (okp := fun _ => True) ?hr ?hp (fun _ hk => hk) trivial (Below.refl _ _) (Nat.le_refl _) (by simp) ?_; (case hd => rfl); (case hg => rfl); (case hr => first | (go_simp; done) | (go_simp; rfl)); (case hp => exact (Reps.none _ _))
       intro v215 w9 ho10 hb hg_ hnew_
       clear hg_ hnew_
       (first | rw [← Ny214.out] at ho10 | (simp only [Int.reduceToNat] at ho10; rw [← Ny214.out] at ho10))
       have n0_ := Aside0.mk (Kd.R_lower ho10 (below_size (HB.out)))
       have NX_ := Aside0.mk (R_as (ok := (fun k_ => ((up b 6) 2 = true → (up b 6) 5 = false → some k_ ≠ (v209 : Value).ownBlock) ∧ ((up b 6) 5 = true → some k_ ≠ (v212 : Value).ownBlock) ∧ ((up b 6) 10 = true → (up b 6) 13 = false → some k_ ≠ (v221 : Value).ownBlock) ∧ ((up b 6) 13 = true → some k_ ≠ (v224 : Value).ownBlock) ∧ ((up b 6) 14 = true → (up b 6) 17 = false → some k_ ≠ (v227 : Value).ownBlock) ∧ ((up b 6) 17 = true → some k_ ≠ (v230 : Value).ownBlock))) n0_.out (fun k_ hk => ⟨fun h0_ h1_ => (by intro e_; have l1_ := Kd.R_lt (Q_HO210 h0_ h1_) k_ e_.symm; have l2_ := Kd.R_base ho10 k_ hk; omega), fun h0_ => (by intro e_; have l1_ := Kd.R_lt (Q_HO213 h0_) k_ e_.symm; have l2_ := Kd.R_base ho10 k_ hk; omega), fun h0_ h1_ => (by intro e_; have l1_ := Kd.R_lt (Q_HO222 h0_ h1_) k_ e_.symm; have l2_ := Kd.R_base ho10 k_ hk; omega), fun h0_ => (by intro e_; have l1_ := Kd.R_lt (Q_HO225 h0_) k_ e_.symm; have l2_ := Kd.R_base ho10 k_ hk; omega), fun h0_ h1_ => (by intro e_; have l1_ := Kd.R_lt (Q_HO228 h0_ h1_) k_ e_.symm; have l2_ := Kd.R_base ho10 k_ hk; omega), fun h0_ => (by intro e_; have l1_ := Kd.R_lt (Q_HO231 h0_) k_ e_.symm; have l2_ := Kd.R_base ho10 k_ hk; omega)⟩))
       have n1_ := Aside0.mk (blk_below (g := gb206) (o := .cells #[.int .i64 a0_0, .slice A0_1 l0_1.length c0_1, .slice A0_2 l0_2.length c0_2, .slice A0_3 l0_3.length c0_3, .slice A0_4 l0_4.length c0_4, .slice A0_5 l0_5.length c0_5] 33 (0, 0)) (by exact BK206.out) hb)
       have n2_ := Aside0.mk (blk_below (g := gb207) (o := .cells #[.int .i64 0, .slice none 0 0, .slice none 0 0, .slice none 0 0, .slice none 0 0, .slice none 0 0] 33 (0, 0)) (by exact BK207.out) hb)
       have n3_ := Aside0.mk (below_step (HB.out) hb)
       have z_HO210 := fun (h0_ : b 2 = true) (h1_ : b 5 = false) => (show Kd.R (Kd.int .i64) 3 w9 w.heap.size (fun k_ => ((up b 6) 6 = true → (up b 6) 9 = false → some k_ ≠ (v215 : Value).ownBlock) ∧ ((up b 6) 9 = true → some k_ ≠ (v218 : Value).ownBlock) ∧ ((up b 6) 10 = true → (up b 6) 13 = false → some k_ ≠ (v221 : Value).ownBlock) ∧ ((up b 6) 13 = true → some k_ ≠ (v224 : Value).ownBlock) ∧ ((up b 6) 14 = true → (up b 6) 17 = false → some k_ ≠ (v227 : Value).ownBlock) ∧ ((up b 6) 17 = true → some k_ ≠ (v230 : Value).ownBlock)) v209 y208 from Kd.R_mono (Kd.R_elder' (Q_HO210 h0_ h1_) (Kd.R_base ho10) hb) (fun k_ hk => ⟨fun _ _ => hk.2, fun h2_ => absurd ((hoff 9 (by kernel_rfl)).symm.trans h2_) (by decide), hk.1.2.2.1, hk.1.2.2.2.1, hk.1.2.2.2.2.1, hk.1.2.2.2.2.2⟩))
       have z_HO213 := fun (h0_ : b 5 = true) => (show Kd.R (Kd.int .i64) 3 w9 w.heap.size (fun k_ => ((up b 6) 6 = true → (up b 6) 9 = false → some k_ ≠ (v215 : Value).ownBlock) ∧ ((up b 6) 9 = true → some k_ ≠ (v218 : Value).ownBlock) ∧ ((up b 6) 10 = true → (up b 6) 13 = false → some k_ ≠ (v221 : Value).ownBlock) ∧ ((up b 6) 13 = true → some k_ ≠ (v224 : Value).ownBlock) ∧ ((up b 6) 14 = true → (up b 6) 17 = false → some k_ ≠ (v227 : Value).ownBlock) ∧ ((up b 6) 17 = true → some k_ ≠ (v230 : Value).ownBlock)) v212 y211 from Kd.R_mono (Kd.R_elder' (Q_HO213 h0_) (Kd.R_base ho10) hb) (fun k_ hk => ⟨fun _ _ => hk.2, fun h2_ => absurd ((hoff 9 (by kernel_rfl)).symm.trans h2_) (by decide), hk.1.2.2.1, hk.1.2.2.2.1, hk.1.2.2.2.2.1, hk.1.2.2.2.2.2⟩))
       have z_HO222 := fun (h0_ : b 10 = true) (h1_ : b 13 = false) => (show Kd.R (Kd.int .i64) 3 w9 w.heap.size (fun k_ => ((up b 6) 2 = true → (up b 6) 5 = false → some k_ ≠ (v209 : Value).ownBlock) ∧ ((up b 6) 5 = true → some k_ ≠ (v212 : Value).ownBlock) ∧ ((up b 6) 6 = true → (up b 6) 9 = false → some k_ ≠ (v215 : Value).ownBlock) ∧ ((up b 6) 9 = true → some k_ ≠ (v218 : Value).ownBlock) ∧ ((up b 6) 14 = true → (up b 6) 17 = false → some k_ ≠ (v227 : Value).ownBlock) ∧ ((up b 6) 17 = true → some k_ ≠ (v230 : Value).ownBlock)) v221 y220 from Kd.R_mono (Kd.R_elder' (Q_HO222 h0_ h1_) (Kd.R_base ho10) hb) (fun k_ hk => ⟨hk.1.1, hk.1.2.1, fun _ _ => hk.2, fun h2_ => absurd ((hoff 9 (by kernel_rfl)).symm.trans h2_) (by decide), hk.1.2.2.2.2.1, hk.1.2.2.2.2.2⟩))
       have z_HO228 := fun (h0_ : b 14 = true) (h1_ : b 17 = false) => (show Kd.R (Kd.int .i64) 3 w9 w.heap.size (fun k_ => ((up b 6) 2 = true → (up b 6) 5 = false → some k_ ≠ (v209 : Value).ownBlock) ∧ ((up b 6) 5 = true → some k_ ≠ (v212 : Value).ownBlock) ∧ ((up b 6) 6 = true → (up b 6) 9 = false → some k_ ≠ (v215 : Value).ownBlock) ∧ ((up b 6) 9 = true → some k_ ≠ (v218 : Value).ownBlock) ∧ ((up b 6) 10 = true → (up b 6) 13 = false → some k_ ≠ (v221 : Value).ownBlock) ∧ ((up b 6) 13 = true → some k_ ≠ (v224 : Value).ownBlock)) v227 y226 from Kd.R_mono (Kd.R_elder' (Q_HO228 h0_ h1_) (Kd.R_base ho10) hb) (fun k_ hk => ⟨hk.1.1, hk.1.2.1, fun _ _ => hk.2, fun h2_ => absurd ((hoff 9 (by kernel_rfl)).symm.trans h2_) (by decide), hk.1.2.2.2.2.1, hk.1.2.2.2.2.2⟩))
       have z_BK232 := fun (h0_ : b 19 = true) (h1_ : b 20 = false) => (show w9.heap[gb232]? = some (.cells #[.int .i64 0, .slice none 0 0, .slice none 0 0, .slice none 0 0, .slice none 0 0, .slice none 0 0] 33 (0, 0)) from by first | exact (blk_below (g := gb232) (o := .cells #[.int .i64 0, .slice none 0 0, .slice none 0 0, .slice none 0 0, .slice none 0 0, .slice none 0 0] 33 (0, 0)) (by exact (Q_BK232 h0_ h1_)) hb))
       clear BK206
       clear BK207
       clear HB
       have HO216 := n0_
       have BK206 := n1_
       have BK207 := n2_
       have HB := n3_
       clear n0_ n1_ n2_ n3_
       clear hb ho10
       refine hK.out _ _ ⟨v209, v212, v215, v218, v221, v224, v227, v230, gb232, m18_, m19_, (by rw [ha.out]; exact putSel_upk 4 hb_ rfl rfl rfl), (by exact BK206.out), (by exact BK207.out), (HB.out), z_HO210, z_HO213, fun _ _ => (by exact NX_.out), fun h0_ => absurd ((hoff 9 (by kernel_rfl)).symm.trans h0_) (by decide), z_HO222, fun h0_ => absurd ((hoff 13 (by kernel_rfl)).symm.trans h0_) (by decide), z_HO228, fun h0_ => absurd ((hoff 17 (by kernel_rfl)).symm.trans h0_) (by decide), z_BK232, Q_GW232, Q_GE232, Q_NB206_232, Q_NB232_206, Q_NB207_232, Q_NB232_207, fun h0_ => absurd ((hoff 20 (by kernel_rfl)).symm.trans h0_) (by decide), fun h0_ => absurd ((hoff 18 (by kernel_rfl)).symm.trans h0_) (by decide), Q_X19_⟩
      refine steps_cons ?_ ?_
      ·rintro b a w' ⟨v209, v212, v215, v218, v221, v224, v227, v230, gb232, m18_, m19_, ha, Q_BK206, Q_BK207, Q_HB, Q_HO210, Q_HO213, Q_HO216, Q_HO219, Q_HO222, Q_HO225, Q_HO228, Q_HO231, Q_BK232, Q_GW232, Q_GE232, Q_NB206_232, Q_NB232_206, Q_NB207_232, Q_NB232_207, Q_BK232_e20, Q_X18_, Q_X19_⟩ hb_ hon hoff
       refine ⟨_, rfl, fun K hK => ?_⟩
       have e12 : a.tmps[12]? = some (.pointer (some ⟨gb206, 3, none⟩)) := by rw [ha]; exact (putSel_off rfl).trans rfl
       replace ha := Aside0.mk ha
       have BK206 := Aside0.mk Q_BK206
       have BK207 := Aside0.mk Q_BK207
       have HB := Aside0.mk Q_HB
       have hc0_ : w'.cell? ⟨gb206, 0, none⟩ = some (.int .i64 a0_0) := (blk_cell BK206.out 0).trans rfl
       have hc1_ : w'.cell? ⟨gb206, 1, none⟩ = some (.slice A0_1 l0_1.length c0_1) := (blk_cell BK206.out 1).trans rfl
       have hc2_ : w'.cell? ⟨gb206, 2, none⟩ = some (.slice A0_2 l0_2.length c0_2) := (blk_cell BK206.out 2).trans rfl
       have hc3_ : w'.cell? ⟨gb206, 3, none⟩ = some (.slice A0_3 l0_3.length c0_3) := (blk_cell BK206.out 3).trans rfl
       have hc4_ : w'.cell? ⟨gb206, 4, none⟩ = some (.slice A0_4 l0_4.length c0_4) := (blk_cell BK206.out 4).trans rfl
       have hc5_ : w'.cell? ⟨gb206, 5, none⟩ = some (.slice A0_5 l0_5.length c0_5) := (blk_cell BK206.out 5).trans rfl
       refine value_ (w1 := w') (v := .slice A0_3 l0_3.length c0_3) (by rfl) rfl ?_ ?_
       ·go_simp
        (try simp only [i64_w])
        try rfl
       refine hK.out _ _ ⟨v209, v212, v215, v218, v221, v224, v227, v230, gb232, m18_, m19_, (by rw [ha.out]; exact putSel_upk 5 hb_ rfl rfl rfl), Q_BK206, Q_BK207, Q_HB, Q_HO210, Q_HO213, Q_HO216, fun h0_ => absurd ((hoff 9 (by kernel_rfl)).symm.trans h0_) (by decide), Q_HO222, fun h0_ => absurd ((hoff 13 (by kernel_rfl)).symm.trans h0_) (by decide), Q_HO228, fun h0_ => absurd ((hoff 17 (by kernel_rfl)).symm.trans h0_) (by decide), Q_BK232, Q_GW232, Q_GE232, Q_NB206_232, Q_NB232_206, Q_NB207_232, Q_NB232_207, fun h0_ => absurd ((hoff 20 (by kernel_rfl)).symm.trans h0_) (by decide), fun h0_ => absurd ((hoff 18 (by kernel_rfl)).symm.trans h0_) (by decide), Q_X19_⟩
      refine steps_cons ?_ ?_
      ·rintro b a w' ⟨v209, v212, v215, v218, v221, v224, v227, v230, gb232, m18_, m19_, ha, Q_BK206, Q_BK207, Q_HB, Q_HO210, Q_HO213, Q_HO216, Q_HO219, Q_HO222, Q_HO225, Q_HO228, Q_HO231, Q_BK232, Q_GW232, Q_GE232, Q_NB206_232, Q_NB232_206, Q_NB207_232, Q_NB232_207, Q_BK232_e20, Q_X18_, Q_X19_⟩ hb_ hon hoff
       refine ⟨_, rfl, fun K hK => ?_⟩
       have e11 : a.tmps[11]? = some (v215) := by rw [ha]; exact putSel_on (e := (6, 11, v215)) 4 rfl rfl (hon 6 (by kernel_rfl)) rfl
       have e13 : a.tmps[13]? = some (.slice A0_3 l0_3.length c0_3) := by rw [ha]; exact putSel_on (e := (8, 13, .slice A0_3 l0_3.length c0_3)) 5 rfl rfl (hon 8 (by kernel_rfl)) rfl
       replace ha := Aside0.mk ha
       have BK206 := Aside0.mk Q_BK206
       have BK207 := Aside0.mk Q_BK207
       have HB := Aside0.mk Q_HB
       have HO213 := Aside0.mk (Q_HO213 (hon 5 (by kernel_rfl)))
       have K_HO216 := Aside0.mk (Q_HO216 (hon 6 (by kernel_rfl)) hb_)
       have HO216 := Aside0.mk (Kd.R_mono K_HO216.out (ok' := fun _ => True) (fun _ _ => trivial))
       refine Kd.R_append_rows_step (Kd.int .i64) (w0 := w) w.heap.size (by rfl) (.tmp 11) (.tmp 13) 22 3 (.int .i64 0) 8 rfl Try.underlying22 info3 rfl (by decide) (by omega) v215 y214 l0_3 _ _ _ (fun _ => True) (fun _ => False) (by first | rfl | exact eval_of e11) (by first | rfl | exact eval_of e13) ?aO ?aR (fun _ _ h => h) (fun _ h => h.elim) ?aF ?aB ?aS ?aL ?_
       (case aR => repeat (first | exact (Kd.C_below HR0_3.out HB.out) | (with_reducible refine Kd.C_alloc ?_ _) | (with_reducible refine Kd.C_drewN ?_ _) | (with_reducible refine Kd.C_drew ?_)))
       (case aB => exact (HB.out))
       (case aF => exact (fun _ _ => trivial))
       (case aO => exact HO216.out)
       (case aS => exact (below_size (HB.out)))
       (case aL => have := LMc3.out; omega)
       intro v218 w15 ho hb hg hat
       rw [← Ny217.out] at ho
       have NX_ := Aside0.mk (R_as (ok := (fun k_ => ((up b 9) 2 = true → (up b 9) 5 = false → some k_ ≠ (v209 : Value).ownBlock) ∧ ((up b 9) 5 = true → some k_ ≠ (v212 : Value).ownBlock) ∧ ((up b 9) 10 = true → (up b 9) 13 = false → some k_ ≠ (v221 : Value).ownBlock) ∧ ((up b 9) 13 = true → some k_ ≠ (v224 : Value).ownBlock) ∧ ((up b 9) 14 = true → (up b 9) 17 = false → some k_ ≠ (v227 : Value).ownBlock) ∧ ((up b 9) 17 = true → some k_ ≠ (v230 : Value).ownBlock))) ho (fun k_ hk => ⟨fun h0_ h1_ => (hat.elim (fun e1_ => (K_HO216.out.1 k_ (e1_ ▸ hk)).1 h0_ h1_) (fun ⟨b1_, e1_, e2_⟩ e_ => by have l1_ := Kd.R_lt (Q_HO210 h0_ h1_) k_ e_.symm; rw [e1_] at hk; cases hk; omega)), fun h0_ => (hat.elim (fun e1_ => (K_HO216.out.1 k_ (e1_ ▸ hk)).2.1 h0_) (fun ⟨b1_, e1_, e2_⟩ e_ => by have l1_ := Kd.R_lt (Q_HO213 h0_) k_ e_.symm; rw [e1_] at hk; cases hk; omega)), fun h0_ h1_ => (hat.elim (fun e1_ => (K_HO216.out.1 k_ (e1_ ▸ hk)).2.2.1 h0_ h1_) (fun ⟨b1_, e1_, e2_⟩ e_ => by have l1_ := Kd.R_lt (Q_HO222 h0_ h1_) k_ e_.symm; rw [e1_] at hk; cases hk; omega)), fun h0_ => (hat.elim (fun e1_ => (K_HO216.out.1 k_ (e1_ ▸ hk)).2.2.2.1 h0_) (fun ⟨b1_, e1_, e2_⟩ e_ => by have l1_ := Kd.R_lt (Q_HO225 h0_) k_ e_.symm; rw [e1_] at hk; cases hk; omega)), fun h0_ h1_ => (hat.elim (fun e1_ => (K_HO216.out.1 k_ (e1_ ▸ hk)).2.2.2.2.1 h0_ h1_) (fun ⟨b1_, e1_, e2_⟩ e_ => by have l1_ := Kd.R_lt (Q_HO228 h0_ h1_) k_ e_.symm; rw [e1_] at hk; cases hk; omega)), fun h0_ => (hat.elim (fun e1_ => (K_HO216.out.1 k_ (e1_ ▸ hk)).2.2.2.2.2 h0_) (fun ⟨b1_, e1_, e2_⟩ e_ => by have l1_ := Kd.R_lt (Q_HO231 h0_) k_ e_.symm; rw [e1_] at hk; cases hk; omega))⟩))
       have n0_ := Aside0.mk (blk_grown (g := gb206) (o := .cells #[.int .i64 a0_0, .slice A0_1 l0_1.length c0_1, .slice A0_2 l0_2.length c0_2, .slice A0_3 l0_3.length c0_3, .slice A0_4 l0_4.length c0_4, .slice A0_5 l0_5.length c0_5] 33 (0, 0)) (by exact BK206.out) hg (Kd.R_ne HO216.out BK206.out (by decide)))
       have n1_ := Aside0.mk (blk_grown (g := gb207) (o := .cells #[.int .i64 0, .slice none 0 0, .slice none 0 0, .slice none 0 0, .slice none 0 0, .slice none 0 0] 33 (0, 0)) (by exact BK207.out) hg (Kd.R_ne HO216.out BK207.out (by decide)))
       have n2_ := Aside0.mk (Kd.R_mono (ok' := (fun k_ => ((up b 9) 6 = true → (up b 9) 9 = false → some k_ ≠ (v215 : Value).ownBlock) ∧ ((up b 9) 9 = true → some k_ ≠ (v218 : Value).ownBlock) ∧ ((up b 9) 10 = true → (up b 9) 13 = false → some k_ ≠ (v221 : Value).ownBlock) ∧ ((up b 9) 13 = true → some k_ ≠ (v224 : Value).ownBlock) ∧ ((up b 9) 14 = true → (up b 9) 17 = false → some k_ ≠ (v227 : Value).ownBlock) ∧ ((up b 9) 17 = true → some k_ ≠ (v230 : Value).ownBlock))) (Kd.R_after (ok := (fun k_ => ((b) 10 = true → (b) 13 = false → some k_ ≠ (v221 : Value).ownBlock) ∧ ((b) 13 = true → some k_ ≠ (v224 : Value).ownBlock) ∧ ((b) 14 = true → (b) 17 = false → some k_ ≠ (v227 : Value).ownBlock) ∧ ((b) 17 = true → some k_ ≠ (v230 : Value).ownBlock))) (Kd.R_mono HO213.out (fun k_ hk => ⟨⟨hk.2.2.1, hk.2.2.2.1, hk.2.2.2.2.1, hk.2.2.2.2.2⟩, (hk.1) (hon 6 (by kernel_rfl)) hb_⟩)) hg hat) (fun k_ hk => ⟨fun _ h2_ => absurd ((up_self b 9).symm.trans h2_) (by decide), fun _ => hk.2, hk.1.1, hk.1.2.1, hk.1.2.2.1, hk.1.2.2.2⟩))
       have n3_ := Aside0.mk (hb)
       have n4_ := Aside0.mk (ho)
       have z_HO222 := fun (h0_ : b 10 = true) (h1_ : b 13 = false) => (show Kd.R (Kd.int .i64) 3 w15 w.heap.size (fun k_ => ((up b 9) 2 = true → (up b 9) 5 = false → some k_ ≠ (v209 : Value).ownBlock) ∧ ((up b 9) 5 = true → some k_ ≠ (v212 : Value).ownBlock) ∧ ((up b 9) 6 = true → (up b 9) 9 = false → some k_ ≠ (v215 : Value).ownBlock) ∧ ((up b 9) 9 = true → some k_ ≠ (v218 : Value).ownBlock) ∧ ((up b 9) 14 = true → (up b 9) 17 = false → some k_ ≠ (v227 : Value).ownBlock) ∧ ((up b 9) 17 = true → some k_ ≠ (v230 : Value).ownBlock)) v221 y220 from Kd.R_mono (Kd.R_after (ok := (fun k_ => ((b) 2 = true → (b) 5 = false → some k_ ≠ (v209 : Value).ownBlock) ∧ ((b) 5 = true → some k_ ≠ (v212 : Value).ownBlock) ∧ ((b) 14 = true → (b) 17 = false → some k_ ≠ (v227 : Value).ownBlock) ∧ ((b) 17 = true → some k_ ≠ (v230 : Value).ownBlock))) (Kd.R_mono (Q_HO222 h0_ h1_) (fun k_ hk => ⟨⟨hk.1, hk.2.1, hk.2.2.2.2.1, hk.2.2.2.2.2⟩, (hk.2.2.1) (hon 6 (by kernel_rfl)) hb_⟩)) hg hat) (fun k_ hk => ⟨hk.1.1, hk.1.2.1, fun _ h2_ => absurd ((up_self b 9).symm.trans h2_) (by decide), fun _ => hk.2, hk.1.2.2.1, hk.1.2.2.2⟩))
       have z_HO228 := fun (h0_ : b 14 = true) (h1_ : b 17 = false) => (show Kd.R (Kd.int .i64) 3 w15 w.heap.size (fun k_ => ((up b 9) 2 = true → (up b 9) 5 = false → some k_ ≠ (v209 : Value).ownBlock) ∧ ((up b 9) 5 = true → some k_ ≠ (v212 : Value).ownBlock) ∧ ((up b 9) 6 = true → (up b 9) 9 = false → some k_ ≠ (v215 : Value).ownBlock) ∧ ((up b 9) 9 = true → some k_ ≠ (v218 : Value).ownBlock) ∧ ((up b 9) 10 = true → (up b 9) 13 = false → some k_ ≠ (v221 : Value).ownBlock) ∧ ((up b 9) 13 = true → some k_ ≠ (v224 : Value).ownBlock)) v227 y226 from Kd.R_mono (Kd.R_after (ok := (fun k_ => ((b) 2 = true → (b) 5 = false → some k_ ≠ (v209 : Value).ownBlock) ∧ ((b) 5 = true → some k_ ≠ (v212 : Value).ownBlock) ∧ ((b) 10 = true → (b) 13 = false → some k_ ≠ (v221 : Value).ownBlock) ∧ ((b) 13 = true → some k_ ≠ (v224 : Value).ownBlock))) (Kd.R_mono (Q_HO228 h0_ h1_) (fun k_ hk => ⟨⟨hk.1, hk.2.1, hk.2.2.2.2.1, hk.2.2.2.2.2⟩, (hk.2.2.1) (hon 6 (by kernel_rfl)) hb_⟩)) hg hat) (fun k_ hk => ⟨hk.1.1, hk.1.2.1, fun _ h2_ => absurd ((up_self b 9).symm.trans h2_) (by decide), fun _ => hk.2, hk.1.2.2.1, hk.1.2.2.2⟩))
       have z_BK232 := fun (h0_ : b 19 = true) (h1_ : b 20 = false) => (show w15.heap[gb232]? = some (.cells #[.int .i64 0, .slice none 0 0, .slice none 0 0, .slice none 0 0, .slice none 0 0, .slice none 0 0] 33 (0, 0)) from by first | exact (blk_grown (g := gb232) (o := .cells #[.int .i64 0, .slice none 0 0, .slice none 0 0, .slice none 0 0, .slice none 0 0, .slice none 0 0] 33 (0, 0)) (by exact (Q_BK232 h0_ h1_)) hg (Kd.R_ne HO216.out (Q_BK232 h0_ h1_) (by decide))))
       clear BK206
       clear BK207
       clear HO213
       clear HB
       clear HO216
       have BK206 := n0_
       have BK207 := n1_
       have HO213 := n2_
       have HB := n3_
       have HO219 := n4_
       clear n0_ n1_ n2_ n3_ n4_
       clear ho hb hg hat
       refine hK.out _ _ ⟨v209, v212, v215, v218, v221, v224, v227, v230, gb232, m18_, m19_, (by rw [ha.out]; exact putSel_upk 6 hb_ rfl rfl rfl), (by exact BK206.out), (by exact BK207.out), (HB.out), fun _ h1_ => absurd ((hon 5 (by kernel_rfl)).symm.trans h1_) (by decide), fun _ => (by exact HO213.out), fun _ h1_ => absurd ((up_self b 9).symm.trans h1_) (by decide), fun _ => (by exact NX_.out), z_HO222, fun h0_ => absurd ((hoff 13 (by kernel_rfl)).symm.trans h0_) (by decide), z_HO228, fun h0_ => absurd ((hoff 17 (by kernel_rfl)).symm.trans h0_) (by decide), z_BK232, Q_GW232, Q_GE232, Q_NB206_232, Q_NB232_206, Q_NB207_232, Q_NB232_207, fun h0_ => absurd ((hoff 20 (by kernel_rfl)).symm.trans h0_) (by decide), fun h0_ => absurd ((hoff 18 (by kernel_rfl)).symm.trans h0_) (by decide), Q_X19_⟩
      refine steps_cons ?_ ?_
      ·rintro b a w' ⟨v209, v212, v215, v218, v221, v224, v227, v230, gb232, m18_, m19_, ha, Q_BK206, Q_BK207, Q_HB, Q_HO210, Q_HO213, Q_HO216, Q_HO219, Q_HO222, Q_HO225, Q_HO228, Q_HO231, Q_BK232, Q_GW232, Q_GE232, Q_NB206_232, Q_NB232_206, Q_NB207_232, Q_NB232_207, Q_BK232_e20, Q_X18_, Q_X19_⟩ hb_ hon hoff
       refine ⟨_, rfl, fun K hK => ?_⟩
       replace ha := Aside0.mk ha
       have BK206 := Aside0.mk Q_BK206
       have BK207 := Aside0.mk Q_BK207
       have HB := Aside0.mk Q_HB
       refine Kd.R_lit_step (Kd.int .i64) _ 3 ?hg (N := 15) ?hd (xs := ([] : List Int)) (inner := []) (ok := fun _ => True) (okp := fun _ => True) ?hr ?hp (fun _ hk => hk) trivial (Below.refl _ _) (Nat.le_refl _) (by simp) ?_; (case hd => rfl); (case hg => rfl); (case hr => first | (go_simp; done) | (go_simp; rfl)); (case hp => exact (Reps.none _ _))
       intro v221 w9 ho10 hb hg_ hnew_
       clear hg_ hnew_
       (first | rw [← Ny220.out] at ho10 | (simp only [Int.reduceToNat] at ho10; rw [← Ny220.out] at ho10))
       have n0_ := Aside0.mk (Kd.R_lower ho10 (below_size (HB.out)))
       have NX_ := Aside0.mk (R_as (ok := (fun k_ => ((up b 10) 2 = true → (up b 10) 5 = false → some k_ ≠ (v209 : Value).ownBlock) ∧ ((up b 10) 5 = true → some k_ ≠ (v212 : Value).ownBlock) ∧ ((up b 10) 6 = true → (up b 10) 9 = false → some k_ ≠ (v215 : Value).ownBlock) ∧ ((up b 10) 9 = true → some k_ ≠ (v218 : Value).ownBlock) ∧ ((up b 10) 14 = true → (up b 10) 17 = false → some k_ ≠ (v227 : Value).ownBlock) ∧ ((up b 10) 17 = true → some k_ ≠ (v230 : Value).ownBlock))) n0_.out (fun k_ hk => ⟨fun h0_ h1_ => (by intro e_; have l1_ := Kd.R_lt (Q_HO210 h0_ h1_) k_ e_.symm; have l2_ := Kd.R_base ho10 k_ hk; omega), fun h0_ => (by intro e_; have l1_ := Kd.R_lt (Q_HO213 h0_) k_ e_.symm; have l2_ := Kd.R_base ho10 k_ hk; omega), fun h0_ h1_ => (by intro e_; have l1_ := Kd.R_lt (Q_HO216 h0_ h1_) k_ e_.symm; have l2_ := Kd.R_base ho10 k_ hk; omega), fun h0_ => (by intro e_; have l1_ := Kd.R_lt (Q_HO219 h0_) k_ e_.symm; have l2_ := Kd.R_base ho10 k_ hk; omega), fun h0_ h1_ => (by intro e_; have l1_ := Kd.R_lt (Q_HO228 h0_ h1_) k_ e_.symm; have l2_ := Kd.R_base ho10 k_ hk; omega), fun h0_ => (by intro e_; have l1_ := Kd.R_lt (Q_HO231 h0_) k_ e_.symm; have l2_ := Kd.R_base ho10 k_ hk; omega)⟩))
       have n1_ := Aside0.mk (blk_below (g := gb206) (o := .cells #[.int .i64 a0_0, .slice A0_1 l0_1.length c0_1, .slice A0_2 l0_2.length c0_2, .slice A0_3 l0_3.length c0_3, .slice A0_4 l0_4.length c0_4, .slice A0_5 l0_5.length c0_5] 33 (0, 0)) (by exact BK206.out) hb)
       have n2_ := Aside0.mk (blk_below (g := gb207) (o := .cells #[.int .i64 0, .slice none 0 0, .slice none 0 0, .slice none 0 0, .slice none 0 0, .slice none 0 0] 33 (0, 0)) (by exact BK207.out) hb)
       have n3_ := Aside0.mk (below_step (HB.out) hb)
       have z_HO210 := fun (h0_ : b 2 = true) (h1_ : b 5 = false) => (show Kd.R (Kd.int .i64) 3 w9 w.heap.size (fun k_ => ((up b 10) 6 = true → (up b 10) 9 = false → some k_ ≠ (v215 : Value).ownBlock) ∧ ((up b 10) 9 = true → some k_ ≠ (v218 : Value).ownBlock) ∧ ((up b 10) 10 = true → (up b 10) 13 = false → some k_ ≠ (v221 : Value).ownBlock) ∧ ((up b 10) 13 = true → some k_ ≠ (v224 : Value).ownBlock) ∧ ((up b 10) 14 = true → (up b 10) 17 = false → some k_ ≠ (v227 : Value).ownBlock) ∧ ((up b 10) 17 = true → some k_ ≠ (v230 : Value).ownBlock)) v209 y208 from Kd.R_mono (Kd.R_elder' (Q_HO210 h0_ h1_) (Kd.R_base ho10) hb) (fun k_ hk => ⟨hk.1.1, hk.1.2.1, fun _ _ => hk.2, fun h2_ => absurd ((hoff 13 (by kernel_rfl)).symm.trans h2_) (by decide), hk.1.2.2.2.2.1, hk.1.2.2.2.2.2⟩))
       have z_HO213 := fun (h0_ : b 5 = true) => (show Kd.R (Kd.int .i64) 3 w9 w.heap.size (fun k_ => ((up b 10) 6 = true → (up b 10) 9 = false → some k_ ≠ (v215 : Value).ownBlock) ∧ ((up b 10) 9 = true → some k_ ≠ (v218 : Value).ownBlock) ∧ ((up b 10) 10 = true → (up b 10) 13 = false → some k_ ≠ (v221 : Value).ownBlock) ∧ ((up b 10) 13 = true → some k_ ≠ (v224 : Value).ownBlock) ∧ ((up b 10) 14 = true → (up b 10) 17 = false → some k_ ≠ (v227 : Value).ownBlock) ∧ ((up b 10) 17 = true → some k_ ≠ (v230 : Value).ownBlock)) v212 y211 from Kd.R_mono (Kd.R_elder' (Q_HO213 h0_) (Kd.R_base ho10) hb) (fun k_ hk => ⟨hk.1.1, hk.1.2.1, fun _ _ => hk.2, fun h2_ => absurd ((hoff 13 (by kernel_rfl)).symm.trans h2_) (by decide), hk.1.2.2.2.2.1, hk.1.2.2.2.2.2⟩))
       have z_HO216 := fun (h0_ : b 6 = true) (h1_ : b 9 = false) => (show Kd.R (Kd.int .i64) 3 w9 w.heap.size (fun k_ => ((up b 10) 2 = true → (up b 10) 5 = false → some k_ ≠ (v209 : Value).ownBlock) ∧ ((up b 10) 5 = true → some k_ ≠ (v212 : Value).ownBlock) ∧ ((up b 10) 10 = true → (up b 10) 13 = false → some k_ ≠ (v221 : Value).ownBlock) ∧ ((up b 10) 13 = true → some k_ ≠ (v224 : Value).ownBlock) ∧ ((up b 10) 14 = true → (up b 10) 17 = false → some k_ ≠ (v227 : Value).ownBlock) ∧ ((up b 10) 17 = true → some k_ ≠ (v230 : Value).ownBlock)) v215 y214 from Kd.R_mono (Kd.R_elder' (Q_HO216 h0_ h1_) (Kd.R_base ho10) hb) (fun k_ hk => ⟨hk.1.1, hk.1.2.1, fun _ _ => hk.2, fun h2_ => absurd ((hoff 13 (by kernel_rfl)).symm.trans h2_) (by decide), hk.1.2.2.2.2.1, hk.1.2.2.2.2.2⟩))
       have z_HO219 := fun (h0_ : b 9 = true) => (show Kd.R (Kd.int .i64) 3 w9 w.heap.size (fun k_ => ((up b 10) 2 = true → (up b 10) 5 = false → some k_ ≠ (v209 : Value).ownBlock) ∧ ((up b 10) 5 = true → some k_ ≠ (v212 : Value).ownBlock) ∧ ((up b 10) 10 = true → (up b 10) 13 = false → some k_ ≠ (v221 : Value).ownBlock) ∧ ((up b 10) 13 = true → some k_ ≠ (v224 : Value).ownBlock) ∧ ((up b 10) 14 = true → (up b 10) 17 = false → some k_ ≠ (v227 : Value).ownBlock) ∧ ((up b 10) 17 = true → some k_ ≠ (v230 : Value).ownBlock)) v218 y217 from Kd.R_mono (Kd.R_elder' (Q_HO219 h0_) (Kd.R_base ho10) hb) (fun k_ hk => ⟨hk.1.1, hk.1.2.1, fun _ _ => hk.2, fun h2_ => absurd ((hoff 13 (by kernel_rfl)).symm.trans h2_) (by decide), hk.1.2.2.2.2.1, hk.1.2.2.2.2.2⟩))
       have z_HO228 := fun (h0_ : b 14 = true) (h1_ : b 17 = false) => (show Kd.R (Kd.int .i64) 3 w9 w.heap.size (fun k_ => ((up b 10) 2 = true → (up b 10) 5 = false → some k_ ≠ (v209 : Value).ownBlock) ∧ ((up b 10) 5 = true → some k_ ≠ (v212 : Value).ownBlock) ∧ ((up b 10) 6 = true → (up b 10) 9 = false → some k_ ≠ (v215 : Value).ownBlock) ∧ ((up b 10) 9 = true → some k_ ≠ (v218 : Value).ownBlock) ∧ ((up b 10) 10 = true → (up b 10) 13 = false → some k_ ≠ (v221 : Value).ownBlock) ∧ ((up b 10) 13 = true → some k_ ≠ (v224 : Value).ownBlock)) v227 y226 from Kd.R_mono (Kd.R_elder' (Q_HO228 h0_ h1_) (Kd.R_base ho10) hb) (fun k_ hk => ⟨hk.1.1, hk.1.2.1, hk.1.2.2.1, hk.1.2.2.2.1, fun _ _ => hk.2, fun h2_ => absurd ((hoff 13 (by kernel_rfl)).symm.trans h2_) (by decide)⟩))
       have z_BK232 := fun (h0_ : b 19 = true) (h1_ : b 20 = false) => (show w9.heap[gb232]? = some (.cells #[.int .i64 0, .slice none 0 0, .slice none 0 0, .slice none 0 0, .slice none 0 0, .slice none 0 0] 33 (0, 0)) from by first | exact (blk_below (g := gb232) (o := .cells #[.int .i64 0, .slice none 0 0, .slice none 0 0, .slice none 0 0, .slice none 0 0, .slice none 0 0] 33 (0, 0)) (by exact (Q_BK232 h0_ h1_)) hb))
       clear BK206
       clear BK207
       clear HB
       have HO222 := n0_
       have BK206 := n1_
       have BK207 := n2_
       have HB := n3_
       clear n0_ n1_ n2_ n3_
       clear hb ho10
       refine hK.out _ _ ⟨v209, v212, v215, v218, v221, v224, v227, v230, gb232, m18_, m19_, (by rw [ha.out]; exact putSel_upk 7 hb_ rfl rfl rfl), (by exact BK206.out), (by exact BK207.out), (HB.out), z_HO210, z_HO213, z_HO216, z_HO219, fun _ _ => (by exact NX_.out), fun h0_ => absurd ((hoff 13 (by kernel_rfl)).symm.trans h0_) (by decide), z_HO228, fun h0_ => absurd ((hoff 17 (by kernel_rfl)).symm.trans h0_) (by decide), z_BK232, Q_GW232, Q_GE232, Q_NB206_232, Q_NB232_206, Q_NB207_232, Q_NB232_207, fun h0_ => absurd ((hoff 20 (by kernel_rfl)).symm.trans h0_) (by decide), fun h0_ => absurd ((hoff 18 (by kernel_rfl)).symm.trans h0_) (by decide), Q_X19_⟩
      refine steps_cons ?_ ?_
      ·rintro b a w' ⟨v209, v212, v215, v218, v221, v224, v227, v230, gb232, m18_, m19_, ha, Q_BK206, Q_BK207, Q_HB, Q_HO210, Q_HO213, Q_HO216, Q_HO219, Q_HO222, Q_HO225, Q_HO228, Q_HO231, Q_BK232, Q_GW232, Q_GE232, Q_NB206_232, Q_NB232_206, Q_NB207_232, Q_NB232_207, Q_BK232_e20, Q_X18_, Q_X19_⟩ hb_ hon hoff
       refine ⟨_, rfl, fun K hK => ?_⟩
       have e16 : a.tmps[16]? = some (.pointer (some ⟨gb206, 4, none⟩)) := by rw [ha]; exact (putSel_off rfl).trans rfl
       replace ha := Aside0.mk ha
       have BK206 := Aside0.mk Q_BK206
       have BK207 := Aside0.mk Q_BK207
       have HB := Aside0.mk Q_HB
       have hc0_ : w'.cell? ⟨gb206, 0, none⟩ = some (.int .i64 a0_0) := (blk_cell BK206.out 0).trans rfl
       have hc1_ : w'.cell? ⟨gb206, 1, none⟩ = some (.slice A0_1 l0_1.length c0_1) := (blk_cell BK206.out 1).trans rfl
       have hc2_ : w'.cell? ⟨gb206, 2, none⟩ = some (.slice A0_2 l0_2.length c0_2) := (blk_cell BK206.out 2).trans rfl
       have hc3_ : w'.cell? ⟨gb206, 3, none⟩ = some (.slice A0_3 l0_3.length c0_3) := (blk_cell BK206.out 3).trans rfl
       have hc4_ : w'.cell? ⟨gb206, 4, none⟩ = some (.slice A0_4 l0_4.length c0_4) := (blk_cell BK206.out 4).trans rfl
       have hc5_ : w'.cell? ⟨gb206, 5, none⟩ = some (.slice A0_5 l0_5.length c0_5) := (blk_cell BK206.out 5).trans rfl
       refine value_ (w1 := w') (v := .slice A0_4 l0_4.length c0_4) (by rfl) rfl ?_ ?_
       ·go_simp
        (try simp only [i64_w])
        try rfl
       refine hK.out _ _ ⟨v209, v212, v215, v218, v221, v224, v227, v230, gb232, m18_, m19_, (by rw [ha.out]; exact putSel_upk 8 hb_ rfl rfl rfl), Q_BK206, Q_BK207, Q_HB, Q_HO210, Q_HO213, Q_HO216, Q_HO219, Q_HO222, fun h0_ => absurd ((hoff 13 (by kernel_rfl)).symm.trans h0_) (by decide), Q_HO228, fun h0_ => absurd ((hoff 17 (by kernel_rfl)).symm.trans h0_) (by decide), Q_BK232, Q_GW232, Q_GE232, Q_NB206_232, Q_NB232_206, Q_NB207_232, Q_NB232_207, fun h0_ => absurd ((hoff 20 (by kernel_rfl)).symm.trans h0_) (by decide), fun h0_ => absurd ((hoff 18 (by kernel_rfl)).symm.trans h0_) (by decide), Q_X19_⟩
      refine steps_cons ?_ ?_
      ·rintro b a w' ⟨v209, v212, v215, v218, v221, v224, v227, v230, gb232, m18_, m19_, ha, Q_BK206, Q_BK207, Q_HB, Q_HO210, Q_HO213, Q_HO216, Q_HO219, Q_HO222, Q_HO225, Q_HO228, Q_HO231, Q_BK232, Q_GW232, Q_GE232, Q_NB206_232, Q_NB232_206, Q_NB207_232, Q_NB232_207, Q_BK232_e20, Q_X18_, Q_X19_⟩ hb_ hon hoff
       refine ⟨_, rfl, fun K hK => ?_⟩
       have e15 : a.tmps[15]? = some (v221) := by rw [ha]; exact putSel_on (e := (10, 15, v221)) 7 rfl rfl (hon 10 (by kernel_rfl)) rfl
       have e17 : a.tmps[17]? = some (.slice A0_4 l0_4.length c0_4) := by rw [ha]; exact putSel_on (e := (12, 17, .slice A0_4 l0_4.length c0_4)) 8 rfl rfl (hon 12 (by kernel_rfl)) rfl
       replace ha := Aside0.mk ha
       have BK206 := Aside0.mk Q_BK206
       have BK207 := Aside0.mk Q_BK207
       have HB := Aside0.mk Q_HB
       have HO213 := Aside0.mk (Q_HO213 (hon 5 (by kernel_rfl)))
       have HO219 := Aside0.mk (Q_HO219 (hon 9 (by kernel_rfl)))
       have K_HO222 := Aside0.mk (Q_HO222 (hon 10 (by kernel_rfl)) hb_)
       have HO222 := Aside0.mk (Kd.R_mono K_HO222.out (ok' := fun _ => True) (fun _ _ => trivial))
       refine Kd.R_append_rows_step (Kd.int .i64) (w0 := w) w.heap.size (by rfl) (.tmp 15) (.tmp 17) 22 3 (.int .i64 0) 8 rfl Try.underlying22 info3 rfl (by decide) (by omega) v221 y220 l0_4 _ _ _ (fun _ => True) (fun _ => False) (by first | rfl | exact eval_of e15) (by first | rfl | exact eval_of e17) ?aO ?aR (fun _ _ h => h) (fun _ h => h.elim) ?aF ?aB ?aS ?aL ?_
       (case aR => repeat (first | exact (Kd.C_below HR0_4.out HB.out) | (with_reducible refine Kd.C_alloc ?_ _) | (with_reducible refine Kd.C_drewN ?_ _) | (with_reducible refine Kd.C_drew ?_)))
       (case aB => exact (HB.out))
       (case aF => exact (fun _ _ => trivial))
       (case aO => exact HO222.out)
       (case aS => exact (below_size (HB.out)))
       (case aL => have := LMc4.out; omega)
       intro v224 w18 ho hb hg hat
       rw [← Ny223.out] at ho
       have NX_ := Aside0.mk (R_as (ok := (fun k_ => ((up b 13) 2 = true → (up b 13) 5 = false → some k_ ≠ (v209 : Value).ownBlock) ∧ ((up b 13) 5 = true → some k_ ≠ (v212 : Value).ownBlock) ∧ ((up b 13) 6 = true → (up b 13) 9 = false → some k_ ≠ (v215 : Value).ownBlock) ∧ ((up b 13) 9 = true → some k_ ≠ (v218 : Value).ownBlock) ∧ ((up b 13) 14 = true → (up b 13) 17 = false → some k_ ≠ (v227 : Value).ownBlock) ∧ ((up b 13) 17 = true → some k_ ≠ (v230 : Value).ownBlock))) ho (fun k_ hk => ⟨fun h0_ h1_ => (hat.elim (fun e1_ => (K_HO222.out.1 k_ (e1_ ▸ hk)).1 h0_ h1_) (fun ⟨b1_, e1_, e2_⟩ e_ => by have l1_ := Kd.R_lt (Q_HO210 h0_ h1_) k_ e_.symm; rw [e1_] at hk; cases hk; omega)), fun h0_ => (hat.elim (fun e1_ => (K_HO222.out.1 k_ (e1_ ▸ hk)).2.1 h0_) (fun ⟨b1_, e1_, e2_⟩ e_ => by have l1_ := Kd.R_lt (Q_HO213 h0_) k_ e_.symm; rw [e1_] at hk; cases hk; omega)), fun h0_ h1_ => (hat.elim (fun e1_ => (K_HO222.out.1 k_ (e1_ ▸ hk)).2.2.1 h0_ h1_) (fun ⟨b1_, e1_, e2_⟩ e_ => by have l1_ := Kd.R_lt (Q_HO216 h0_ h1_) k_ e_.symm; rw [e1_] at hk; cases hk; omega)), fun h0_ => (hat.elim (fun e1_ => (K_HO222.out.1 k_ (e1_ ▸ hk)).2.2.2.1 h0_) (fun ⟨b1_, e1_, e2_⟩ e_ => by have l1_ := Kd.R_lt (Q_HO219 h0_) k_ e_.symm; rw [e1_] at hk; cases hk; omega)), fun h0_ h1_ => (hat.elim (fun e1_ => (K_HO222.out.1 k_ (e1_ ▸ hk)).2.2.2.2.1 h0_ h1_) (fun ⟨b1_, e1_, e2_⟩ e_ => by have l1_ := Kd.R_lt (Q_HO228 h0_ h1_) k_ e_.symm; rw [e1_] at hk; cases hk; omega)), fun h0_ => (hat.elim (fun e1_ => (K_HO222.out.1 k_ (e1_ ▸ hk)).2.2.2.2.2 h0_) (fun ⟨b1_, e1_, e2_⟩ e_ => by have l1_ := Kd.R_lt (Q_HO231 h0_) k_ e_.symm; rw [e1_] at hk; cases hk; omega))⟩))
       have n0_ := Aside0.mk (blk_grown (g := gb206) (o := .cells #[.int .i64 a0_0, .slice A0_1 l0_1.length c0_1, .slice A0_2 l0_2.length c0_2, .slice A0_3 l0_3.length c0_3, .slice A0_4 l0_4.length c0_4, .slice A0_5 l0_5.length c0_5] 33 (0, 0)) (by exact BK206.out) hg (Kd.R_ne HO222.out BK206.out (by decide)))
       have n1_ := Aside0.mk (blk_grown (g := gb207) (o := .cells #[.int .i64 0, .slice none 0 0, .slice none 0 0, .slice none 0 0, .slice none 0 0, .slice none 0 0] 33 (0, 0)) (by exact BK207.out) hg (Kd.R_ne HO222.out BK207.out (by decide)))
       have n2_ := Aside0.mk (Kd.R_mono (ok' := (fun k_ => ((up b 13) 6 = true → (up b 13) 9 = false → some k_ ≠ (v215 : Value).ownBlock) ∧ ((up b 13) 9 = true → some k_ ≠ (v218 : Value).ownBlock) ∧ ((up b 13) 10 = true → (up b 13) 13 = false → some k_ ≠ (v221 : Value).ownBlock) ∧ ((up b 13) 13 = true → some k_ ≠ (v224 : Value).ownBlock) ∧ ((up b 13) 14 = true → (up b 13) 17 = false → some k_ ≠ (v227 : Value).ownBlock) ∧ ((up b 13) 17 = true → some k_ ≠ (v230 : Value).ownBlock))) (Kd.R_after (ok := (fun k_ => ((b) 6 = true → (b) 9 = false → some k_ ≠ (v215 : Value).ownBlock) ∧ ((b) 9 = true → some k_ ≠ (v218 : Value).ownBlock) ∧ ((b) 14 = true → (b) 17 = false → some k_ ≠ (v227 : Value).ownBlock) ∧ ((b) 17 = true → some k_ ≠ (v230 : Value).ownBlock))) (Kd.R_mono HO213.out (fun k_ hk => ⟨⟨hk.1, hk.2.1, hk.2.2.2.2.1, hk.2.2.2.2.2⟩, (hk.2.2.1) (hon 10 (by kernel_rfl)) hb_⟩)) hg hat) (fun k_ hk => ⟨hk.1.1, hk.1.2.1, fun _ h2_ => absurd ((up_self b 13).symm.trans h2_) (by decide), fun _ => hk.2, hk.1.2.2.1, hk.1.2.2.2⟩))
       have n3_ := Aside0.mk (Kd.R_mono (ok' := (fun k_ => ((up b 13) 2 = true → (up b 13) 5 = false → some k_ ≠ (v209 : Value).ownBlock) ∧ ((up b 13) 5 = true → some k_ ≠ (v212 : Value).ownBlock) ∧ ((up b 13) 10 = true → (up b 13) 13 = false → some k_ ≠ (v221 : Value).ownBlock) ∧ ((up b 13) 13 = true → some k_ ≠ (v224 : Value).ownBlock) ∧ ((up b 13) 14 = true → (up b 13) 17 = false → some k_ ≠ (v227 : Value).ownBlock) ∧ ((up b 13) 17 = true → some k_ ≠ (v230 : Value).ownBlock))) (Kd.R_after (ok := (fun k_ => ((b) 2 = true → (b) 5 = false → some k_ ≠ (v209 : Value).ownBlock) ∧ ((b) 5 = true → some k_ ≠ (v212 : Value).ownBlock) ∧ ((b) 14 = true → (b) 17 = false → some k_ ≠ (v227 : Value).ownBlock) ∧ ((b) 17 = true → some k_ ≠ (v230 : Value).ownBlock))) (Kd.R_mono HO219.out (fun k_ hk => ⟨⟨hk.1, hk.2.1, hk.2.2.2.2.1, hk.2.2.2.2.2⟩, (hk.2.2.1) (hon 10 (by kernel_rfl)) hb_⟩)) hg hat) (fun k_ hk => ⟨hk.1.1, hk.1.2.1, fun _ h2_ => absurd ((up_self b 13).symm.trans h2_) (by decide), fun _ => hk.2, hk.1.2.2.1, hk.1.2.2.2⟩))
       have n4_ := Aside0.mk (hb)
       have n5_ := Aside0.mk (ho)
       have z_HO228 := fun (h0_ : b 14 = true) (h1_ : b 17 = false) => (show Kd.R (Kd.int .i64) 3 w18 w.heap.size (fun k_ => ((up b 13) 2 = true → (up b 13) 5 = false → some k_ ≠ (v209 : Value).ownBlock) ∧ ((up b 13) 5 = true → some k_ ≠ (v212 : Value).ownBlock) ∧ ((up b 13) 6 = true → (up b 13) 9 = false → some k_ ≠ (v215 : Value).ownBlock) ∧ ((up b 13) 9 = true → some k_ ≠ (v218 : Value).ownBlock) ∧ ((up b 13) 10 = true → (up b 13) 13 = false → some k_ ≠ (v221 : Value).ownBlock) ∧ ((up b 13) 13 = true → some k_ ≠ (v224 : Value).ownBlock)) v227 y226 from Kd.R_mono (Kd.R_after (ok := (fun k_ => ((b) 2 = true → (b) 5 = false → some k_ ≠ (v209 : Value).ownBlock) ∧ ((b) 5 = true → some k_ ≠ (v212 : Value).ownBlock) ∧ ((b) 6 = true → (b) 9 = false → some k_ ≠ (v215 : Value).ownBlock) ∧ ((b) 9 = true → some k_ ≠ (v218 : Value).ownBlock))) (Kd.R_mono (Q_HO228 h0_ h1_) (fun k_ hk => ⟨⟨hk.1, hk.2.1, hk.2.2.1, hk.2.2.2.1⟩, (hk.2.2.2.2.1) (hon 10 (by kernel_rfl)) hb_⟩)) hg hat) (fun k_ hk => ⟨hk.1.1, hk.1.2.1, hk.1.2.2.1, hk.1.2.2.2, fun _ h2_ => absurd ((up_self b 13).symm.trans h2_) (by decide), fun _ => hk.2⟩))
       have z_BK232 := fun (h0_ : b 19 = true) (h1_ : b 20 = false) => (show w18.heap[gb232]? = some (.cells #[.int .i64 0, .slice none 0 0, .slice none 0 0, .slice none 0 0, .slice none 0 0, .slice none 0 0] 33 (0, 0)) from by first | exact (blk_grown (g := gb232) (o := .cells #[.int .i64 0, .slice none 0 0, .slice none 0 0, .slice none 0 0, .slice none 0 0, .slice none 0 0] 33 (0, 0)) (by exact (Q_BK232 h0_ h1_)) hg (Kd.R_ne HO222.out (Q_BK232 h0_ h1_) (by decide))))
       clear BK206
       clear BK207
       clear HO213
       clear HO219
       clear HB
       clear HO222
       have BK206 := n0_
       have BK207 := n1_
       have HO213 := n2_
       have HO219 := n3_
       have HB := n4_
       have HO225 := n5_
       clear n0_ n1_ n2_ n3_ n4_ n5_
       clear ho hb hg hat
       refine hK.out _ _ ⟨v209, v212, v215, v218, v221, v224, v227, v230, gb232, m18_, m19_, (by rw [ha.out]; exact putSel_upk 9 hb_ rfl rfl rfl), (by exact BK206.out), (by exact BK207.out), (HB.out), fun _ h1_ => absurd ((hon 5 (by kernel_rfl)).symm.trans h1_) (by decide), fun _ => (by exact HO213.out), fun _ h1_ => absurd ((hon 9 (by kernel_rfl)).symm.trans h1_) (by decide), fun _ => (by exact HO219.out), fun _ h1_ => absurd ((up_self b 13).symm.trans h1_) (by decide), fun _ => (by exact NX_.out), z_HO228, fun h0_ => absurd ((hoff 17 (by kernel_rfl)).symm.trans h0_) (by decide), z_BK232, Q_GW232, Q_GE232, Q_NB206_232, Q_NB232_206, Q_NB207_232, Q_NB232_207, fun h0_ => absurd ((hoff 20 (by kernel_rfl)).symm.trans h0_) (by decide), fun h0_ => absurd ((hoff 18 (by kernel_rfl)).symm.trans h0_) (by decide), Q_X19_⟩
      refine steps_cons ?_ ?_
      ·rintro b a w' ⟨v209, v212, v215, v218, v221, v224, v227, v230, gb232, m18_, m19_, ha, Q_BK206, Q_BK207, Q_HB, Q_HO210, Q_HO213, Q_HO216, Q_HO219, Q_HO222, Q_HO225, Q_HO228, Q_HO231, Q_BK232, Q_GW232, Q_GE232, Q_NB206_232, Q_NB232_206, Q_NB207_232, Q_NB232_207, Q_BK232_e20, Q_X18_, Q_X19_⟩ hb_ hon hoff
       refine ⟨_, rfl, fun K hK => ?_⟩
       replace ha := Aside0.mk ha
       have BK206 := Aside0.mk Q_BK206
       have BK207 := Aside0.mk Q_BK207
       have HB := Aside0.mk Q_HB
       refine Kd.R_lit_step (Kd.int .i64) _ 3 ?hg (N := 19) ?hd (xs := ([] : List Int)) (inner := []) (ok := fun _ => True) (okp := fun _ => True) ?hr ?hp (fun _ hk => hk) trivial (Below.refl _ _) (Nat.le_refl _) (by simp) ?_; (case hd => rfl); (case hg => rfl); (case hr => first | (go_simp; done) | (go_simp; rfl)); (case hp => exact (Reps.none _ _))
       intro v227 w9 ho10 hb hg_ hnew_
       clear hg_ hnew_
       (first | rw [← Ny226.out] at ho10 | (simp only [Int.reduceToNat] at ho10; rw [← Ny226.out] at ho10))
       have n0_ := Aside0.mk (Kd.R_lower ho10 (below_size (HB.out)))
       have NX_ := Aside0.mk (R_as (ok := (fun k_ => ((up b 14) 2 = true → (up b 14) 5 = false → some k_ ≠ (v209 : Value).ownBlock) ∧ ((up b 14) 5 = true → some k_ ≠ (v212 : Value).ownBlock) ∧ ((up b 14) 6 = true → (up b 14) 9 = false → some k_ ≠ (v215 : Value).ownBlock) ∧ ((up b 14) 9 = true → some k_ ≠ (v218 : Value).ownBlock) ∧ ((up b 14) 10 = true → (up b 14) 13 = false → some k_ ≠ (v221 : Value).ownBlock) ∧ ((up b 14) 13 = true → some k_ ≠ (v224 : Value).ownBlock))) n0_.out (fun k_ hk => ⟨fun h0_ h1_ => (by intro e_; have l1_ := Kd.R_lt (Q_HO210 h0_ h1_) k_ e_.symm; have l2_ := Kd.R_base ho10 k_ hk; omega), fun h0_ => (by intro e_; have l1_ := Kd.R_lt (Q_HO213 h0_) k_ e_.symm; have l2_ := Kd.R_base ho10 k_ hk; omega), fun h0_ h1_ => (by intro e_; have l1_ := Kd.R_lt (Q_HO216 h0_ h1_) k_ e_.symm; have l2_ := Kd.R_base ho10 k_ hk; omega), fun h0_ => (by intro e_; have l1_ := Kd.R_lt (Q_HO219 h0_) k_ e_.symm; have l2_ := Kd.R_base ho10 k_ hk; omega), fun h0_ h1_ => (by intro e_; have l1_ := Kd.R_lt (Q_HO222 h0_ h1_) k_ e_.symm; have l2_ := Kd.R_base ho10 k_ hk; omega), fun h0_ => (by intro e_; have l1_ := Kd.R_lt (Q_HO225 h0_) k_ e_.symm; have l2_ := Kd.R_base ho10 k_ hk; omega)⟩))
       have n1_ := Aside0.mk (blk_below (g := gb206) (o := .cells #[.int .i64 a0_0, .slice A0_1 l0_1.length c0_1, .slice A0_2 l0_2.length c0_2, .slice A0_3 l0_3.length c0_3, .slice A0_4 l0_4.length c0_4, .slice A0_5 l0_5.length c0_5] 33 (0, 0)) (by exact BK206.out) hb)
       have n2_ := Aside0.mk (blk_below (g := gb207) (o := .cells #[.int .i64 0, .slice none 0 0, .slice none 0 0, .slice none 0 0, .slice none 0 0, .slice none 0 0] 33 (0, 0)) (by exact BK207.out) hb)
       have n3_ := Aside0.mk (below_step (HB.out) hb)
       have z_HO210 := fun (h0_ : b 2 = true) (h1_ : b 5 = false) => (show Kd.R (Kd.int .i64) 3 w9 w.heap.size (fun k_ => ((up b 14) 6 = true → (up b 14) 9 = false → some k_ ≠ (v215 : Value).ownBlock) ∧ ((up b 14) 9 = true → some k_ ≠ (v218 : Value).ownBlock) ∧ ((up b 14) 10 = true → (up b 14) 13 = false → some k_ ≠ (v221 : Value).ownBlock) ∧ ((up b 14) 13 = true → some k_ ≠ (v224 : Value).ownBlock) ∧ ((up b 14) 14 = true → (up b 14) 17 = false → some k_ ≠ (v227 : Value).ownBlock) ∧ ((up b 14) 17 = true → some k_ ≠ (v230 : Value).ownBlock)) v209 y208 from Kd.R_mono (Kd.R_elder' (Q_HO210 h0_ h1_) (Kd.R_base ho10) hb) (fun k_ hk => ⟨hk.1.1, hk.1.2.1, hk.1.2.2.1, hk.1.2.2.2.1, fun _ _ => hk.2, fun h2_ => absurd ((hoff 17 (by kernel_rfl)).symm.trans h2_) (by decide)⟩))
       have z_HO213 := fun (h0_ : b 5 = true) => (show Kd.R (Kd.int .i64) 3 w9 w.heap.size (fun k_ => ((up b 14) 6 = true → (up b 14) 9 = false → some k_ ≠ (v215 : Value).ownBlock) ∧ ((up b 14) 9 = true → some k_ ≠ (v218 : Value).ownBlock) ∧ ((up b 14) 10 = true → (up b 14) 13 = false → some k_ ≠ (v221 : Value).ownBlock) ∧ ((up b 14) 13 = true → some k_ ≠ (v224 : Value).ownBlock) ∧ ((up b 14) 14 = true → (up b 14) 17 = false → some k_ ≠ (v227 : Value).ownBlock) ∧ ((up b 14) 17 = true → some k_ ≠ (v230 : Value).ownBlock)) v212 y211 from Kd.R_mono (Kd.R_elder' (Q_HO213 h0_) (Kd.R_base ho10) hb) (fun k_ hk => ⟨hk.1.1, hk.1.2.1, hk.1.2.2.1, hk.1.2.2.2.1, fun _ _ => hk.2, fun h2_ => absurd ((hoff 17 (by kernel_rfl)).symm.trans h2_) (by decide)⟩))
       have z_HO216 := fun (h0_ : b 6 = true) (h1_ : b 9 = false) => (show Kd.R (Kd.int .i64) 3 w9 w.heap.size (fun k_ => ((up b 14) 2 = true → (up b 14) 5 = false → some k_ ≠ (v209 : Value).ownBlock) ∧ ((up b 14) 5 = true → some k_ ≠ (v212 : Value).ownBlock) ∧ ((up b 14) 10 = true → (up b 14) 13 = false → some k_ ≠ (v221 : Value).ownBlock) ∧ ((up b 14) 13 = true → some k_ ≠ (v224 : Value).ownBlock) ∧ ((up b 14) 14 = true → (up b 14) 17 = false → some k_ ≠ (v227 : Value).ownBlock) ∧ ((up b 14) 17 = true → some k_ ≠ (v230 : Value).ownBlock)) v215 y214 from Kd.R_mono (Kd.R_elder' (Q_HO216 h0_ h1_) (Kd.R_base ho10) hb) (fun k_ hk => ⟨hk.1.1, hk.1.2.1, hk.1.2.2.1, hk.1.2.2.2.1, fun _ _ => hk.2, fun h2_ => absurd ((hoff 17 (by kernel_rfl)).symm.trans h2_) (by decide)⟩))
       have z_HO219 := fun (h0_ : b 9 = true) => (show Kd.R (Kd.int .i64) 3 w9 w.heap.size (fun k_ => ((up b 14) 2 = true → (up b 14) 5 = false → some k_ ≠ (v209 : Value).ownBlock) ∧ ((up b 14) 5 = true → some k_ ≠ (v212 : Value).ownBlock) ∧ ((up b 14) 10 = true → (up b 14) 13 = false → some k_ ≠ (v221 : Value).ownBlock) ∧ ((up b 14) 13 = true → some k_ ≠ (v224 : Value).ownBlock) ∧ ((up b 14) 14 = true → (up b 14) 17 = false → some k_ ≠ (v227 : Value).ownBlock) ∧ ((up b 14) 17 = true → some k_ ≠ (v230 : Value).ownBlock)) v218 y217 from Kd.R_mono (Kd.R_elder' (Q_HO219 h0_) (Kd.R_base ho10) hb) (fun k_ hk => ⟨hk.1.1, hk.1.2.1, hk.1.2.2.1, hk.1.2.2.2.1, fun _ _ => hk.2, fun h2_ => absurd ((hoff 17 (by kernel_rfl)).symm.trans h2_) (by decide)⟩))
       have z_HO222 := fun (h0_ : b 10 = true) (h1_ : b 13 = false) => (show Kd.R (Kd.int .i64) 3 w9 w.heap.size (fun k_ => ((up b 14) 2 = true → (up b 14) 5 = false → some k_ ≠ (v209 : Value).ownBlock) ∧ ((up b 14) 5 = true → some k_ ≠ (v212 : Value).ownBlock) ∧ ((up b 14) 6 = true → (up b 14) 9 = false → some k_ ≠ (v215 : Value).ownBlock) ∧ ((up b 14) 9 = true → some k_ ≠ (v218 : Value).ownBlock) ∧ ((up b 14) 14 = true → (up b 14) 17 = false → some k_ ≠ (v227 : Value).ownBlock) ∧ ((up b 14) 17 = true → some k_ ≠ (v230 : Value).ownBlock)) v221 y220 from Kd.R_mono (Kd.R_elder' (Q_HO222 h0_ h1_) (Kd.R_base ho10) hb) (fun k_ hk => ⟨hk.1.1, hk.1.2.1, hk.1.2.2.1, hk.1.2.2.2.1, fun _ _ => hk.2, fun h2_ => absurd ((hoff 17 (by kernel_rfl)).symm.trans h2_) (by decide)⟩))
       have z_HO225 := fun (h0_ : b 13 = true) => (show Kd.R (Kd.int .i64) 3 w9 w.heap.size (fun k_ => ((up b 14) 2 = true → (up b 14) 5 = false → some k_ ≠ (v209 : Value).ownBlock) ∧ ((up b 14) 5 = true → some k_ ≠ (v212 : Value).ownBlock) ∧ ((up b 14) 6 = true → (up b 14) 9 = false → some k_ ≠ (v215 : Value).ownBlock) ∧ ((up b 14) 9 = true → some k_ ≠ (v218 : Value).ownBlock) ∧ ((up b 14) 14 = true → (up b 14) 17 = false → some k_ ≠ (v227 : Value).ownBlock) ∧ ((up b 14) 17 = true → some k_ ≠ (v230 : Value).ownBlock)) v224 y223 from Kd.R_mono (Kd.R_elder' (Q_HO225 h0_) (Kd.R_base ho10) hb) (fun k_ hk => ⟨hk.1.1, hk.1.2.1, hk.1.2.2.1, hk.1.2.2.2.1, fun _ _ => hk.2, fun h2_ => absurd ((hoff 17 (by kernel_rfl)).symm.trans h2_) (by decide)⟩))
       have z_BK232 := fun (h0_ : b 19 = true) (h1_ : b 20 = false) => (show w9.heap[gb232]? = some (.cells #[.int .i64 0, .slice none 0 0, .slice none 0 0, .slice none 0 0, .slice none 0 0, .slice none 0 0] 33 (0, 0)) from by first | exact (blk_below (g := gb232) (o := .cells #[.int .i64 0, .slice none 0 0, .slice none 0 0, .slice none 0 0, .slice none 0 0, .slice none 0 0] 33 (0, 0)) (by exact (Q_BK232 h0_ h1_)) hb))
       clear BK206
       clear BK207
       clear HB
       have HO228 := n0_
       have BK206 := n1_
       have BK207 := n2_
       have HB := n3_
       clear n0_ n1_ n2_ n3_
       clear hb ho10
       refine hK.out _ _ ⟨v209, v212, v215, v218, v221, v224, v227, v230, gb232, m18_, m19_, (by rw [ha.out]; exact putSel_upk 10 hb_ rfl rfl rfl), (by exact BK206.out), (by exact BK207.out), (HB.out), z_HO210, z_HO213, z_HO216, z_HO219, z_HO222, z_HO225, fun _ _ => (by exact NX_.out), fun h0_ => absurd ((hoff 17 (by kernel_rfl)).symm.trans h0_) (by decide), z_BK232, Q_GW232, Q_GE232, Q_NB206_232, Q_NB232_206, Q_NB207_232, Q_NB232_207, fun h0_ => absurd ((hoff 20 (by kernel_rfl)).symm.trans h0_) (by decide), fun h0_ => absurd ((hoff 18 (by kernel_rfl)).symm.trans h0_) (by decide), Q_X19_⟩
      refine steps_cons ?_ ?_
      ·rintro b a w' ⟨v209, v212, v215, v218, v221, v224, v227, v230, gb232, m18_, m19_, ha, Q_BK206, Q_BK207, Q_HB, Q_HO210, Q_HO213, Q_HO216, Q_HO219, Q_HO222, Q_HO225, Q_HO228, Q_HO231, Q_BK232, Q_GW232, Q_GE232, Q_NB206_232, Q_NB232_206, Q_NB207_232, Q_NB232_207, Q_BK232_e20, Q_X18_, Q_X19_⟩ hb_ hon hoff
       refine ⟨_, rfl, fun K hK => ?_⟩
       have e20 : a.tmps[20]? = some (.pointer (some ⟨gb206, 5, none⟩)) := by rw [ha]; exact (putSel_off rfl).trans rfl
       replace ha := Aside0.mk ha
       have BK206 := Aside0.mk Q_BK206
       have BK207 := Aside0.mk Q_BK207
       have HB := Aside0.mk Q_HB
       have hc0_ : w'.cell? ⟨gb206, 0, none⟩ = some (.int .i64 a0_0) := (blk_cell BK206.out 0).trans rfl
       have hc1_ : w'.cell? ⟨gb206, 1, none⟩ = some (.slice A0_1 l0_1.length c0_1) := (blk_cell BK206.out 1).trans rfl
       have hc2_ : w'.cell? ⟨gb206, 2, none⟩ = some (.slice A0_2 l0_2.length c0_2) := (blk_cell BK206.out 2).trans rfl
       have hc3_ : w'.cell? ⟨gb206, 3, none⟩ = some (.slice A0_3 l0_3.length c0_3) := (blk_cell BK206.out 3).trans rfl
       have hc4_ : w'.cell? ⟨gb206, 4, none⟩ = some (.slice A0_4 l0_4.length c0_4) := (blk_cell BK206.out 4).trans rfl
       have hc5_ : w'.cell? ⟨gb206, 5, none⟩ = some (.slice A0_5 l0_5.length c0_5) := (blk_cell BK206.out 5).trans rfl
       refine value_ (w1 := w') (v := .slice A0_5 l0_5.length c0_5) (by rfl) rfl ?_ ?_
       ·go_simp
        (try simp only [i64_w])
        try rfl
       refine hK.out _ _ ⟨v209, v212, v215, v218, v221, v224, v227, v230, gb232, m18_, m19_, (by rw [ha.out]; exact putSel_upk 11 hb_ rfl rfl rfl), Q_BK206, Q_BK207, Q_HB, Q_HO210, Q_HO213, Q_HO216, Q_HO219, Q_HO222, Q_HO225, Q_HO228, fun h0_ => absurd ((hoff 17 (by kernel_rfl)).symm.trans h0_) (by decide), Q_BK232, Q_GW232, Q_GE232, Q_NB206_232, Q_NB232_206, Q_NB207_232, Q_NB232_207, fun h0_ => absurd ((hoff 20 (by kernel_rfl)).symm.trans h0_) (by decide), fun h0_ => absurd ((hoff 18 (by kernel_rfl)).symm.trans h0_) (by decide), Q_X19_⟩
      refine steps_cons ?_ ?_
      ·rintro b a w' ⟨v209, v212, v215, v218, v221, v224, v227, v230, gb232, m18_, m19_, ha, Q_BK206, Q_BK207, Q_HB, Q_HO210, Q_HO213, Q_HO216, Q_HO219, Q_HO222, Q_HO225, Q_HO228, Q_HO231, Q_BK232, Q_GW232, Q_GE232, Q_NB206_232, Q_NB232_206, Q_NB207_232, Q_NB232_207, Q_BK232_e20, Q_X18_, Q_X19_⟩ hb_ hon hoff
       refine ⟨_, rfl, fun K hK => ?_⟩
       have e19 : a.tmps[19]? = some (v227) := by rw [ha]; exact putSel_on (e := (14, 19, v227)) 10 rfl rfl (hon 14 (by kernel_rfl)) rfl
       have e21 : a.tmps[21]? = some (.slice A0_5 l0_5.length c0_5) := by rw [ha]; exact putSel_on (e := (16, 21, .slice A0_5 l0_5.length c0_5)) 11 rfl rfl (hon 16 (by kernel_rfl)) rfl
       replace ha := Aside0.mk ha
       have BK206 := Aside0.mk Q_BK206
       have BK207 := Aside0.mk Q_BK207
       have HB := Aside0.mk Q_HB
       have HO213 := Aside0.mk (Q_HO213 (hon 5 (by kernel_rfl)))
       have HO219 := Aside0.mk (Q_HO219 (hon 9 (by kernel_rfl)))
       have HO225 := Aside0.mk (Q_HO225 (hon 13 (by kernel_rfl)))
       have K_HO228 := Aside0.mk (Q_HO228 (hon 14 (by kernel_rfl)) hb_)
       have HO228 := Aside0.mk (Kd.R_mono K_HO228.out (ok' := fun _ => True) (fun _ _ => trivial))
       refine Kd.R_append_rows_step (Kd.int .i64) (w0 := w) w.heap.size (by rfl) (.tmp 19) (.tmp 21) 22 3 (.int .i64 0) 8 rfl Try.underlying22 info3 rfl (by decide) (by omega) v227 y226 l0_5 _ _ _ (fun _ => True) (fun _ => False) (by first | rfl | exact eval_of e19) (by first | rfl | exact eval_of e21) ?aO ?aR (fun _ _ h => h) (fun _ h => h.elim) ?aF ?aB ?aS ?aL ?_
       (case aR => repeat (first | exact (Kd.C_below HR0_5.out HB.out) | (with_reducible refine Kd.C_alloc ?_ _) | (with_reducible refine Kd.C_drewN ?_ _) | (with_reducible refine Kd.C_drew ?_)))
       (case aB => exact (HB.out))
       (case aF => exact (fun _ _ => trivial))
       (case aO => exact HO228.out)
       (case aS => exact (below_size (HB.out)))
       (case aL => have := LMc5.out; omega)
       intro v230 w21 ho hb hg hat
       rw [← Ny229.out] at ho
       have NX_ := Aside0.mk (R_as (ok := (fun k_ => ((up b 17) 2 = true → (up b 17) 5 = false → some k_ ≠ (v209 : Value).ownBlock) ∧ ((up b 17) 5 = true → some k_ ≠ (v212 : Value).ownBlock) ∧ ((up b 17) 6 = true → (up b 17) 9 = false → some k_ ≠ (v215 : Value).ownBlock) ∧ ((up b 17) 9 = true → some k_ ≠ (v218 : Value).ownBlock) ∧ ((up b 17) 10 = true → (up b 17) 13 = false → some k_ ≠ (v221 : Value).ownBlock) ∧ ((up b 17) 13 = true → some k_ ≠ (v224 : Value).ownBlock))) ho (fun k_ hk => ⟨fun h0_ h1_ => (hat.elim (fun e1_ => (K_HO228.out.1 k_ (e1_ ▸ hk)).1 h0_ h1_) (fun ⟨b1_, e1_, e2_⟩ e_ => by have l1_ := Kd.R_lt (Q_HO210 h0_ h1_) k_ e_.symm; rw [e1_] at hk; cases hk; omega)), fun h0_ => (hat.elim (fun e1_ => (K_HO228.out.1 k_ (e1_ ▸ hk)).2.1 h0_) (fun ⟨b1_, e1_, e2_⟩ e_ => by have l1_ := Kd.R_lt (Q_HO213 h0_) k_ e_.symm; rw [e1_] at hk; cases hk; omega)), fun h0_ h1_ => (hat.elim (fun e1_ => (K_HO228.out.1 k_ (e1_ ▸ hk)).2.2.1 h0_ h1_) (fun ⟨b1_, e1_, e2_⟩ e_ => by have l1_ := Kd.R_lt (Q_HO216 h0_ h1_) k_ e_.symm; rw [e1_] at hk; cases hk; omega)), fun h0_ => (hat.elim (fun e1_ => (K_HO228.out.1 k_ (e1_ ▸ hk)).2.2.2.1 h0_) (fun ⟨b1_, e1_, e2_⟩ e_ => by have l1_ := Kd.R_lt (Q_HO219 h0_) k_ e_.symm; rw [e1_] at hk; cases hk; omega)), fun h0_ h1_ => (hat.elim (fun e1_ => (K_HO228.out.1 k_ (e1_ ▸ hk)).2.2.2.2.1 h0_ h1_) (fun ⟨b1_, e1_, e2_⟩ e_ => by have l1_ := Kd.R_lt (Q_HO222 h0_ h1_) k_ e_.symm; rw [e1_] at hk; cases hk; omega)), fun h0_ => (hat.elim (fun e1_ => (K_HO228.out.1 k_ (e1_ ▸ hk)).2.2.2.2.2 h0_) (fun ⟨b1_, e1_, e2_⟩ e_ => by have l1_ := Kd.R_lt (Q_HO225 h0_) k_ e_.symm; rw [e1_] at hk; cases hk; omega))⟩))
       have n0_ := Aside0.mk (blk_grown (g := gb206) (o := .cells #[.int .i64 a0_0, .slice A0_1 l0_1.length c0_1, .slice A0_2 l0_2.length c0_2, .slice A0_3 l0_3.length c0_3, .slice A0_4 l0_4.length c0_4, .slice A0_5 l0_5.length c0_5] 33 (0, 0)) (by exact BK206.out) hg (Kd.R_ne HO228.out BK206.out (by decide)))
       have n1_ := Aside0.mk (blk_grown (g := gb207) (o := .cells #[.int .i64 0, .slice none 0 0, .slice none 0 0, .slice none 0 0, .slice none 0 0, .slice none 0 0] 33 (0, 0)) (by exact BK207.out) hg (Kd.R_ne HO228.out BK207.out (by decide)))
       have n2_ := Aside0.mk (Kd.R_mono (ok' := (fun k_ => ((up b 17) 6 = true → (up b 17) 9 = false → some k_ ≠ (v215 : Value).ownBlock) ∧ ((up b 17) 9 = true → some k_ ≠ (v218 : Value).ownBlock) ∧ ((up b 17) 10 = true → (up b 17) 13 = false → some k_ ≠ (v221 : Value).ownBlock) ∧ ((up b 17) 13 = true → some k_ ≠ (v224 : Value).ownBlock) ∧ ((up b 17) 14 = true → (up b 17) 17 = false → some k_ ≠ (v227 : Value).ownBlock) ∧ ((up b 17) 17 = true → some k_ ≠ (v230 : Value).ownBlock))) (Kd.R_after (ok := (fun k_ => ((b) 6 = true → (b) 9 = false → some k_ ≠ (v215 : Value).ownBlock) ∧ ((b) 9 = true → some k_ ≠ (v218 : Value).ownBlock) ∧ ((b) 10 = true → (b) 13 = false → some k_ ≠ (v221 : Value).ownBlock) ∧ ((b) 13 = true → some k_ ≠ (v224 : Value).ownBlock))) (Kd.R_mono HO213.out (fun k_ hk => ⟨⟨hk.1, hk.2.1, hk.2.2.1, hk.2.2.2.1⟩, (hk.2.2.2.2.1) (hon 14 (by kernel_rfl)) hb_⟩)) hg hat) (fun k_ hk => ⟨hk.1.1, hk.1.2.1, hk.1.2.2.1, hk.1.2.2.2, fun _ h2_ => absurd ((up_self b 17).symm.trans h2_) (by decide), fun _ => hk.2⟩))
       have n3_ := Aside0.mk (Kd.R_mono (ok' := (fun k_ => ((up b 17) 2 = true → (up b 17) 5 = false → some k_ ≠ (v209 : Value).ownBlock) ∧ ((up b 17) 5 = true → some k_ ≠ (v212 : Value).ownBlock) ∧ ((up b 17) 10 = true → (up b 17) 13 = false → some k_ ≠ (v221 : Value).ownBlock) ∧ ((up b 17) 13 = true → some k_ ≠ (v224 : Value).ownBlock) ∧ ((up b 17) 14 = true → (up b 17) 17 = false → some k_ ≠ (v227 : Value).ownBlock) ∧ ((up b 17) 17 = true → some k_ ≠ (v230 : Value).ownBlock))) (Kd.R_after (ok := (fun k_ => ((b) 2 = true → (b) 5 = false → some k_ ≠ (v209 : Value).ownBlock) ∧ ((b) 5 = true → some k_ ≠ (v212 : Value).ownBlock) ∧ ((b) 10 = true → (b) 13 = false → some k_ ≠ (v221 : Value).ownBlock) ∧ ((b) 13 = true → some k_ ≠ (v224 : Value).ownBlock))) (Kd.R_mono HO219.out (fun k_ hk => ⟨⟨hk.1, hk.2.1, hk.2.2.1, hk.2.2.2.1⟩, (hk.2.2.2.2.1) (hon 14 (by kernel_rfl)) hb_⟩)) hg hat) (fun k_ hk => ⟨hk.1.1, hk.1.2.1, hk.1.2.2.1, hk.1.2.2.2, fun _ h2_ => absurd ((up_self b 17).symm.trans h2_) (by decide), fun _ => hk.2⟩))
       have n4_ := Aside0.mk (Kd.R_mono (ok' := (fun k_ => ((up b 17) 2 = true → (up b 17) 5 = false → some k_ ≠ (v209 : Value).ownBlock) ∧ ((up b 17) 5 = true → some k_ ≠ (v212 : Value).ownBlock) ∧ ((up b 17) 6 = true → (up b 17) 9 = false → some k_ ≠ (v215 : Value).ownBlock) ∧ ((up b 17) 9 = true → some k_ ≠ (v218 : Value).ownBlock) ∧ ((up b 17) 14 = true → (up b 17) 17 = false → some k_ ≠ (v227 : Value).ownBlock) ∧ ((up b 17) 17 = true → some k_ ≠ (v230 : Value).ownBlock))) (Kd.R_after (ok := (fun k_ => ((b) 2 = true → (b) 5 = false → some k_ ≠ (v209 : Value).ownBlock) ∧ ((b) 5 = true → some k_ ≠ (v212 : Value).ownBlock) ∧ ((b) 6 = true → (b) 9 = false → some k_ ≠ (v215 : Value).ownBlock) ∧ ((b) 9 = true → some k_ ≠ (v218 : Value).ownBlock))) (Kd.R_mono HO225.out (fun k_ hk => ⟨⟨hk.1, hk.2.1, hk.2.2.1, hk.2.2.2.1⟩, (hk.2.2.2.2.1) (hon 14 (by kernel_rfl)) hb_⟩)) hg hat) (fun k_ hk => ⟨hk.1.1, hk.1.2.1, hk.1.2.2.1, hk.1.2.2.2, fun _ h2_ => absurd ((up_self b 17).symm.trans h2_) (by decide), fun _ => hk.2⟩))
       have n5_ := Aside0.mk (hb)
       have n6_ := Aside0.mk (ho)
       have z_BK232 := fun (h0_ : b 19 = true) (h1_ : b 20 = false) => (show w21.heap[gb232]? = some (.cells #[.int .i64 0, .slice none 0 0, .slice none 0 0, .slice none 0 0, .slice none 0 0, .slice none 0 0] 33 (0, 0)) from by first | exact (blk_grown (g := gb232) (o := .cells #[.int .i64 0, .slice none 0 0, .slice none 0 0, .slice none 0 0, .slice none 0 0, .slice none 0 0] 33 (0, 0)) (by exact (Q_BK232 h0_ h1_)) hg (Kd.R_ne HO228.out (Q_BK232 h0_ h1_) (by decide))))
       clear BK206
       clear BK207
       clear HO213
       clear HO219
       clear HO225
       clear HB
       clear HO228
       have BK206 := n0_
       have BK207 := n1_
       have HO213 := n2_
       have HO219 := n3_
       have HO225 := n4_
       have HB := n5_
       have HO231 := n6_
       clear n0_ n1_ n2_ n3_ n4_ n5_ n6_
       clear ho hb hg hat
       obtain ⟨Ao22, co22, eo22⟩ := Kd.R_slice HO231.out
       (first | subst eo22 | (injection eo22 with f1_ f2_ f3_; have f4_ := f1_.symm; have f5_ := f3_.symm; clear f1_ f2_ f3_; subst f4_; subst f5_))
       obtain ⟨Ao23, co23, eo23⟩ := Kd.R_slice HO225.out
       (first | subst eo23 | (injection eo23 with f1_ f2_ f3_; have f4_ := f1_.symm; have f5_ := f3_.symm; clear f1_ f2_ f3_; subst f4_; subst f5_))
       obtain ⟨Ao24, co24, eo24⟩ := Kd.R_slice HO219.out
       (first | subst eo24 | (injection eo24 with f1_ f2_ f3_; have f4_ := f1_.symm; have f5_ := f3_.symm; clear f1_ f2_ f3_; subst f4_; subst f5_))
       obtain ⟨Ao25, co25, eo25⟩ := Kd.R_slice HO213.out
       (first | subst eo25 | (injection eo25 with f1_ f2_ f3_; have f4_ := f1_.symm; have f5_ := f3_.symm; clear f1_ f2_ f3_; subst f4_; subst f5_))
       refine hK.out _ _ ⟨v209, .slice Ao25 y211.length co25, v215, .slice Ao24 y217.length co24, v221, .slice Ao23 y223.length co23, v227, .slice Ao22 y229.length co22, gb232, m18_, m19_, (by rw [ha.out]; exact putSel_upk 12 hb_ rfl rfl rfl), (by exact BK206.out), (by exact BK207.out), (HB.out), fun _ h1_ => absurd ((hon 5 (by kernel_rfl)).symm.trans h1_) (by decide), fun _ => (by exact HO213.out), fun _ h1_ => absurd ((hon 9 (by kernel_rfl)).symm.trans h1_) (by decide), fun _ => (by exact HO219.out), fun _ h1_ => absurd ((hon 13 (by kernel_rfl)).symm.trans h1_) (by decide), fun _ => (by exact HO225.out), fun _ h1_ => absurd ((up_self b 17).symm.trans h1_) (by decide), fun _ => (by exact NX_.out), z_BK232, Q_GW232, Q_GE232, Q_NB206_232, Q_NB232_206, Q_NB207_232, Q_NB232_207, fun h0_ => absurd ((hoff 20 (by kernel_rfl)).symm.trans h0_) (by decide), fun h0_ => absurd ((hoff 18 (by kernel_rfl)).symm.trans h0_) (by decide), Q_X19_⟩
      refine steps_cons ?_ ?_
      ·rintro b a w' ⟨v209, v212, v215, v218, v221, v224, v227, v230, gb232, m18_, m19_, ha, Q_BK206, Q_BK207, Q_HB, Q_HO210, Q_HO213, Q_HO216, Q_HO219, Q_HO222, Q_HO225, Q_HO228, Q_HO231, Q_BK232, Q_GW232, Q_GE232, Q_NB206_232, Q_NB232_206, Q_NB207_232, Q_NB232_207, Q_BK232_e20, Q_X18_, Q_X19_⟩ hb_ hon hoff
       refine ⟨_, rfl, fun K hK => ?_⟩
       have e6 : a.tmps[6]? = some (.int .i64 a0_0) := by rw [ha]; exact putSel_on (e := (1, 6, .int .i64 a0_0)) 0 rfl rfl (hon 1 (by kernel_rfl)) rfl
       have e10 : a.tmps[10]? = some (v212) := by rw [ha]; exact putSel_on (e := (5, 10, v212)) 3 rfl rfl (hon 5 (by kernel_rfl)) rfl
       have e14 : a.tmps[14]? = some (v218) := by rw [ha]; exact putSel_on (e := (9, 14, v218)) 6 rfl rfl (hon 9 (by kernel_rfl)) rfl
       have e18 : a.tmps[18]? = some (v224) := by rw [ha]; exact putSel_on (e := (13, 18, v224)) 9 rfl rfl (hon 13 (by kernel_rfl)) rfl
       have e22 : a.tmps[22]? = some (v230) := by rw [ha]; exact putSel_on (e := (17, 22, v230)) 12 rfl rfl (hon 17 (by kernel_rfl)) rfl
       replace ha := Aside0.mk ha
       have BK206 := Aside0.mk Q_BK206
       have BK207 := Aside0.mk Q_BK207
       have HB := Aside0.mk Q_HB
       have HO213 := Aside0.mk (Q_HO213 (hon 5 (by kernel_rfl)))
       have HO219 := Aside0.mk (Q_HO219 (hon 9 (by kernel_rfl)))
       have HO225 := Aside0.mk (Q_HO225 (hon 13 (by kernel_rfl)))
       have HO231 := Aside0.mk (Q_HO231 (hon 17 (by kernel_rfl)))
       obtain ⟨Ao18_0, co18_0, eo_⟩ := Kd.R_slice HO213.out
       subst eo_
       obtain ⟨Ao18_1, co18_1, eo_⟩ := Kd.R_slice HO219.out
       subst eo_
       obtain ⟨Ao18_2, co18_2, eo_⟩ := Kd.R_slice HO225.out
       subst eo_
       obtain ⟨Ao18_3, co18_3, eo_⟩ := Kd.R_slice HO231.out
       subst eo_
       refine value_ (w1 := w') (v := .agg #[.int .i64 a0_0, .slice none 0 0, .slice Ao18_0 y211.length co18_0, .slice Ao18_1 y217.length co18_1, .slice Ao18_2 y223.length co18_2, .slice Ao18_3 y229.length co18_3]) (by rfl) rfl ?_ ?_
       ·go_simp
        (try simp only [i64_w])
        try rfl
       refine hK.out _ _ ⟨v209, .slice Ao18_0 y211.length co18_0, v215, .slice Ao18_1 y217.length co18_1, v221, .slice Ao18_2 y223.length co18_2, v227, .slice Ao18_3 y229.length co18_3, gb232, (.agg #[.int .i64 a0_0, .slice none 0 0, .slice Ao18_0 y211.length co18_0, .slice Ao18_1 y217.length co18_1, .slice Ao18_2 y223.length co18_2, .slice Ao18_3 y229.length co18_3]), m19_, (by rw [ha.out]; exact putSel_upk 13 hb_ rfl rfl rfl), Q_BK206, Q_BK207, Q_HB, fun _ h1_ => absurd ((hon 5 (by kernel_rfl)).symm.trans h1_) (by decide), Q_HO213, fun _ h1_ => absurd ((hon 9 (by kernel_rfl)).symm.trans h1_) (by decide), Q_HO219, fun _ h1_ => absurd ((hon 13 (by kernel_rfl)).symm.trans h1_) (by decide), Q_HO225, fun _ h1_ => absurd ((hon 17 (by kernel_rfl)).symm.trans h1_) (by decide), Q_HO231, Q_BK232, Q_GW232, Q_GE232, Q_NB206_232, Q_NB232_206, Q_NB207_232, Q_NB232_207, fun h0_ => absurd ((hoff 20 (by kernel_rfl)).symm.trans h0_) (by decide), fun _ => rfl, Q_X19_⟩
      refine steps_cons ?_ ?_
      ·rintro b a w' ⟨v209, v212, v215, v218, v221, v224, v227, v230, gb232, m18_, m19_, ha, Q_BK206, Q_BK207, Q_HB, Q_HO210, Q_HO213, Q_HO216, Q_HO219, Q_HO222, Q_HO225, Q_HO228, Q_HO231, Q_BK232, Q_GW232, Q_GE232, Q_NB206_232, Q_NB232_206, Q_NB207_232, Q_NB232_207, Q_BK232_e20, Q_X18_, Q_X19_⟩ hb_ hon hoff
       refine ⟨_, rfl, fun K hK => ?_⟩
       replace ha := Aside0.mk ha
       have BK206 := Aside0.mk Q_BK206
       have BK207 := Aside0.mk Q_BK207
       have HB := Aside0.mk Q_HB
       refine box_step ?hg (N := 3) ?hd (cs := #[.int .i64 0, .slice none 0 0, .slice none 0 0, .slice none 0 0, .slice none 0 0, .slice none 0 0]) (t := 33) ?hr ?_; (case hd => rfl); (case hg => rfl); (case hr => first | (go_simp; done) | (go_simp; rfl))
       intro gb232 hg w9 hbox hb
       have n0_ := Aside0.mk (blk_below (g := gb206) (o := .cells #[.int .i64 a0_0, .slice A0_1 l0_1.length c0_1, .slice A0_2 l0_2.length c0_2, .slice A0_3 l0_3.length c0_3, .slice A0_4 l0_4.length c0_4, .slice A0_5 l0_5.length c0_5] 33 (0, 0)) (by exact BK206.out) hb)
       have n1_ := Aside0.mk (blk_below (g := gb207) (o := .cells #[.int .i64 0, .slice none 0 0, .slice none 0 0, .slice none 0 0, .slice none 0 0, .slice none 0 0] 33 (0, 0)) (by exact BK207.out) hb)
       have n2_ := Aside0.mk (below_step (HB.out) hb)
       have n3_ := Aside0.mk (hbox)
       have n4_ := Aside0.mk ((by rw [hg]; exact (below_size (HB.out)) : w.heap.size ≤ gb232))
       have n5_ := Aside0.mk ((by rw [hg]; exact (below_size (HB.out)) : w.heap.size ≤ gb232))
       have n6_ := Aside0.mk ((by rw [hg]; exact Nat.ne_of_lt (blk_lt (g := gb206) (o := .cells #[.int .i64 a0_0, .slice A0_1 l0_1.length c0_1, .slice A0_2 l0_2.length c0_2, .slice A0_3 l0_3.length c0_3, .slice A0_4 l0_4.length c0_4, .slice A0_5 l0_5.length c0_5] 33 (0, 0)) (by exact BK206.out)) : gb206 ≠ gb232))
       have n7_ := Aside0.mk ((by rw [hg]; exact Nat.ne_of_gt (blk_lt (g := gb206) (o := .cells #[.int .i64 a0_0, .slice A0_1 l0_1.length c0_1, .slice A0_2 l0_2.length c0_2, .slice A0_3 l0_3.length c0_3, .slice A0_4 l0_4.length c0_4, .slice A0_5 l0_5.length c0_5] 33 (0, 0)) (by exact BK206.out)) : gb232 ≠ gb206))
       have n8_ := Aside0.mk ((by rw [hg]; exact Nat.ne_of_lt (blk_lt (g := gb207) (o := .cells #[.int .i64 0, .slice none 0 0, .slice none 0 0, .slice none 0 0, .slice none 0 0, .slice none 0 0] 33 (0, 0)) (by exact BK207.out)) : gb207 ≠ gb232))
       have n9_ := Aside0.mk ((by rw [hg]; exact Nat.ne_of_gt (blk_lt (g := gb207) (o := .cells #[.int .i64 0, .slice none 0 0, .slice none 0 0, .slice none 0 0, .slice none 0 0, .slice none 0 0] 33 (0, 0)) (by exact BK207.out)) : gb232 ≠ gb207))
       have z_HO210 := fun (h0_ : b 2 = true) (h1_ : b 5 = false) => (show Kd.R (Kd.int .i64) 3 w9 w.heap.size (fun k_ => ((b) 6 = true → (b) 9 = false → some k_ ≠ (v215 : Value).ownBlock) ∧ ((b) 9 = true → some k_ ≠ (v218 : Value).ownBlock) ∧ ((b) 10 = true → (b) 13 = false → some k_ ≠ (v221 : Value).ownBlock) ∧ ((b) 13 = true → some k_ ≠ (v224 : Value).ownBlock) ∧ ((b) 14 = true → (b) 17 = false → some k_ ≠ (v227 : Value).ownBlock) ∧ ((b) 17 = true → some k_ ≠ (v230 : Value).ownBlock)) v209 y208 from by first | exact (Kd.R_below (by exact (Q_HO210 h0_ h1_)) hb) | exact Kd.R_mono (Kd.R_below (by (with_reducible repeat (first | apply Kd.R_alloc | apply Kd.R_drewN | apply Kd.R_drew)); exact (Q_HO210 h0_ h1_)) hb) (fun _ h_ => by first | trivial | exact h_ | exact h_.1))
       have z_HO213 := fun (h0_ : b 5 = true) => (show Kd.R (Kd.int .i64) 3 w9 w.heap.size (fun k_ => ((b) 6 = true → (b) 9 = false → some k_ ≠ (v215 : Value).ownBlock) ∧ ((b) 9 = true → some k_ ≠ (v218 : Value).ownBlock) ∧ ((b) 10 = true → (b) 13 = false → some k_ ≠ (v221 : Value).ownBlock) ∧ ((b) 13 = true → some k_ ≠ (v224 : Value).ownBlock) ∧ ((b) 14 = true → (b) 17 = false → some k_ ≠ (v227 : Value).ownBlock) ∧ ((b) 17 = true → some k_ ≠ (v230 : Value).ownBlock)) v212 y211 from by first | exact (Kd.R_below (by exact (Q_HO213 h0_)) hb) | exact Kd.R_mono (Kd.R_below (by (with_reducible repeat (first | apply Kd.R_alloc | apply Kd.R_drewN | apply Kd.R_drew)); exact (Q_HO213 h0_)) hb) (fun _ h_ => by first | trivial | exact h_ | exact h_.1))
       have z_HO216 := fun (h0_ : b 6 = true) (h1_ : b 9 = false) => (show Kd.R (Kd.int .i64) 3 w9 w.heap.size (fun k_ => ((b) 2 = true → (b) 5 = false → some k_ ≠ (v209 : Value).ownBlock) ∧ ((b) 5 = true → some k_ ≠ (v212 : Value).ownBlock) ∧ ((b) 10 = true → (b) 13 = false → some k_ ≠ (v221 : Value).ownBlock) ∧ ((b) 13 = true → some k_ ≠ (v224 : Value).ownBlock) ∧ ((b) 14 = true → (b) 17 = false → some k_ ≠ (v227 : Value).ownBlock) ∧ ((b) 17 = true → some k_ ≠ (v230 : Value).ownBlock)) v215 y214 from by first | exact (Kd.R_below (by exact (Q_HO216 h0_ h1_)) hb) | exact Kd.R_mono (Kd.R_below (by (with_reducible repeat (first | apply Kd.R_alloc | apply Kd.R_drewN | apply Kd.R_drew)); exact (Q_HO216 h0_ h1_)) hb) (fun _ h_ => by first | trivial | exact h_ | exact h_.1))
       have z_HO219 := fun (h0_ : b 9 = true) => (show Kd.R (Kd.int .i64) 3 w9 w.heap.size (fun k_ => ((b) 2 = true → (b) 5 = false → some k_ ≠ (v209 : Value).ownBlock) ∧ ((b) 5 = true → some k_ ≠ (v212 : Value).ownBlock) ∧ ((b) 10 = true → (b) 13 = false → some k_ ≠ (v221 : Value).ownBlock) ∧ ((b) 13 = true → some k_ ≠ (v224 : Value).ownBlock) ∧ ((b) 14 = true → (b) 17 = false → some k_ ≠ (v227 : Value).ownBlock) ∧ ((b) 17 = true → some k_ ≠ (v230 : Value).ownBlock)) v218 y217 from by first | exact (Kd.R_below (by exact (Q_HO219 h0_)) hb) | exact Kd.R_mono (Kd.R_below (by (with_reducible repeat (first | apply Kd.R_alloc | apply Kd.R_drewN | apply Kd.R_drew)); exact (Q_HO219 h0_)) hb) (fun _ h_ => by first | trivial | exact h_ | exact h_.1))
       have z_HO222 := fun (h0_ : b 10 = true) (h1_ : b 13 = false) => (show Kd.R (Kd.int .i64) 3 w9 w.heap.size (fun k_ => ((b) 2 = true → (b) 5 = false → some k_ ≠ (v209 : Value).ownBlock) ∧ ((b) 5 = true → some k_ ≠ (v212 : Value).ownBlock) ∧ ((b) 6 = true → (b) 9 = false → some k_ ≠ (v215 : Value).ownBlock) ∧ ((b) 9 = true → some k_ ≠ (v218 : Value).ownBlock) ∧ ((b) 14 = true → (b) 17 = false → some k_ ≠ (v227 : Value).ownBlock) ∧ ((b) 17 = true → some k_ ≠ (v230 : Value).ownBlock)) v221 y220 from by first | exact (Kd.R_below (by exact (Q_HO222 h0_ h1_)) hb) | exact Kd.R_mono (Kd.R_below (by (with_reducible repeat (first | apply Kd.R_alloc | apply Kd.R_drewN | apply Kd.R_drew)); exact (Q_HO222 h0_ h1_)) hb) (fun _ h_ => by first | trivial | exact h_ | exact h_.1))
       have z_HO225 := fun (h0_ : b 13 = true) => (show Kd.R (Kd.int .i64) 3 w9 w.heap.size (fun k_ => ((b) 2 = true → (b) 5 = false → some k_ ≠ (v209 : Value).ownBlock) ∧ ((b) 5 = true → some k_ ≠ (v212 : Value).ownBlock) ∧ ((b) 6 = true → (b) 9 = false → some k_ ≠ (v215 : Value).ownBlock) ∧ ((b) 9 = true → some k_ ≠ (v218 : Value).ownBlock) ∧ ((b) 14 = true → (b) 17 = false → some k_ ≠ (v227 : Value).ownBlock) ∧ ((b) 17 = true → some k_ ≠ (v230 : Value).ownBlock)) v224 y223 from by first | exact (Kd.R_below (by exact (Q_HO225 h0_)) hb) | exact Kd.R_mono (Kd.R_below (by (with_reducible repeat (first | apply Kd.R_alloc | apply Kd.R_drewN | apply Kd.R_drew)); exact (Q_HO225 h0_)) hb) (fun _ h_ => by first | trivial | exact h_ | exact h_.1))
       have z_HO228 := fun (h0_ : b 14 = true) (h1_ : b 17 = false) => (show Kd.R (Kd.int .i64) 3 w9 w.heap.size (fun k_ => ((b) 2 = true → (b) 5 = false → some k_ ≠ (v209 : Value).ownBlock) ∧ ((b) 5 = true → some k_ ≠ (v212 : Value).ownBlock) ∧ ((b) 6 = true → (b) 9 = false → some k_ ≠ (v215 : Value).ownBlock) ∧ ((b) 9 = true → some k_ ≠ (v218 : Value).ownBlock) ∧ ((b) 10 = true → (b) 13 = false → some k_ ≠ (v221 : Value).ownBlock) ∧ ((b) 13 = true → some k_ ≠ (v224 : Value).ownBlock)) v227 y226 from by first | exact (Kd.R_below (by exact (Q_HO228 h0_ h1_)) hb) | exact Kd.R_mono (Kd.R_below (by (with_reducible repeat (first | apply Kd.R_alloc | apply Kd.R_drewN | apply Kd.R_drew)); exact (Q_HO228 h0_ h1_)) hb) (fun _ h_ => by first | trivial | exact h_ | exact h_.1))
       have z_HO231 := fun (h0_ : b 17 = true) => (show Kd.R (Kd.int .i64) 3 w9 w.heap.size (fun k_ => ((b) 2 = true → (b) 5 = false → some k_ ≠ (v209 : Value).ownBlock) ∧ ((b) 5 = true → some k_ ≠ (v212 : Value).ownBlock) ∧ ((b) 6 = true → (b) 9 = false → some k_ ≠ (v215 : Value).ownBlock) ∧ ((b) 9 = true → some k_ ≠ (v218 : Value).ownBlock) ∧ ((b) 10 = true → (b) 13 = false → some k_ ≠ (v221 : Value).ownBlock) ∧ ((b) 13 = true → some k_ ≠ (v224 : Value).ownBlock)) v230 y229 from by first | exact (Kd.R_below (by exact (Q_HO231 h0_)) hb) | exact Kd.R_mono (Kd.R_below (by (with_reducible repeat (first | apply Kd.R_alloc | apply Kd.R_drewN | apply Kd.R_drew)); exact (Q_HO231 h0_)) hb) (fun _ h_ => by first | trivial | exact h_ | exact h_.1))
       clear BK206
       clear BK207
       clear HB
       have BK206 := n0_
       have BK207 := n1_
       have HB := n2_
       have BK232 := n3_
       have GW232 := n4_
       have GE232 := n5_
       have NB206_232 := n6_
       have NB232_206 := n7_
       have NB207_232 := n8_
       have NB232_207 := n9_
       clear n0_ n1_ n2_ n3_ n4_ n5_ n6_ n7_ n8_ n9_
       clear hb hbox hg
       refine hK.out _ _ ⟨v209, v212, v215, v218, v221, v224, v227, v230, gb232, m18_, (.pointer (some ⟨gb232, 0, none⟩)), (by rw [ha.out]; exact putSel_upk 14 hb_ rfl rfl rfl), (by exact BK206.out), (by exact BK207.out), (HB.out), z_HO210, z_HO213, z_HO216, z_HO219, z_HO222, z_HO225, z_HO228, z_HO231, fun _ _ => (by exact BK232.out), fun _ => GW232.out, fun _ => GE232.out, fun _ => NB206_232.out, fun _ => NB232_206.out, fun _ => NB207_232.out, fun _ => NB232_207.out, fun h0_ => absurd ((hoff 20 (by kernel_rfl)).symm.trans h0_) (by decide), Q_X18_, fun _ => rfl⟩
      refine steps_cons ?_ ?_
      ·rintro b a w' ⟨v209, v212, v215, v218, v221, v224, v227, v230, gb232, m18_, m19_, ha, Q_BK206, Q_BK207, Q_HB, Q_HO210, Q_HO213, Q_HO216, Q_HO219, Q_HO222, Q_HO225, Q_HO228, Q_HO231, Q_BK232, Q_GW232, Q_GE232, Q_NB206_232, Q_NB232_206, Q_NB207_232, Q_NB232_207, Q_BK232_e20, Q_X18_, Q_X19_⟩ hb_ hon hoff
       refine ⟨_, rfl, fun K hK => ?_⟩
       have e3 : a.tmps[3]? = some (m19_) := by rw [ha]; exact putSel_on (e := (19, 3, m19_)) 14 rfl rfl (hon 19 (by kernel_rfl)) rfl
       rw [Q_X19_ (hon 19 (by kernel_rfl))] at e3
       have e23 : a.tmps[23]? = some (m18_) := by rw [ha]; exact putSel_on (e := (18, 23, m18_)) 13 rfl rfl (hon 18 (by kernel_rfl)) rfl
       rw [Q_X18_ (hon 18 (by kernel_rfl))] at e23
       replace ha := Aside0.mk ha
       have BK206 := Aside0.mk Q_BK206
       have BK207 := Aside0.mk Q_BK207
       have HB := Aside0.mk Q_HB
       have HO213 := Aside0.mk (Q_HO213 (hon 5 (by kernel_rfl)))
       have HO219 := Aside0.mk (Q_HO219 (hon 9 (by kernel_rfl)))
       have HO225 := Aside0.mk (Q_HO225 (hon 13 (by kernel_rfl)))
       have HO231 := Aside0.mk (Q_HO231 (hon 17 (by kernel_rfl)))
       have BK232 := Aside0.mk (Q_BK232 (hon 19 (by kernel_rfl)) hb_)
       have GW232 := Aside0.mk (Q_GW232 (hon 19 (by kernel_rfl)))
       have GE232 := Aside0.mk (Q_GE232 (hon 19 (by kernel_rfl)))
       have NB206_232 := Aside0.mk (Q_NB206_232 (hon 19 (by kernel_rfl)))
       have NB232_206 := Aside0.mk (Q_NB232_206 (hon 19 (by kernel_rfl)))
       have NB207_232 := Aside0.mk (Q_NB207_232 (hon 19 (by kernel_rfl)))
       have NB232_207 := Aside0.mk (Q_NB232_207 (hon 19 (by kernel_rfl)))
       obtain ⟨Ao27, co27, eo27⟩ := Kd.R_slice HO231.out
       (first | subst eo27 | (injection eo27 with f1_ f2_ f3_; have f4_ := f1_.symm; have f5_ := f3_.symm; clear f1_ f2_ f3_; subst f4_; subst f5_))
       obtain ⟨Ao28, co28, eo28⟩ := Kd.R_slice HO225.out
       (first | subst eo28 | (injection eo28 with f1_ f2_ f3_; have f4_ := f1_.symm; have f5_ := f3_.symm; clear f1_ f2_ f3_; subst f4_; subst f5_))
       obtain ⟨Ao29, co29, eo29⟩ := Kd.R_slice HO219.out
       (first | subst eo29 | (injection eo29 with f1_ f2_ f3_; have f4_ := f1_.symm; have f5_ := f3_.symm; clear f1_ f2_ f3_; subst f4_; subst f5_))
       obtain ⟨Ao30, co30, eo30⟩ := Kd.R_slice HO213.out
       (first | subst eo30 | (injection eo30 with f1_ f2_ f3_; have f4_ := f1_.symm; have f5_ := f3_.symm; clear f1_ f2_ f3_; subst f4_; subst f5_))
       have hs31 : w'.cell? ⟨gb232, 0, none⟩ = some (.int .i64 0) := (blk_cell BK232.out 0).trans rfl
       have hfs31 := blk_frozen BK232.out 0
       have hns31_0 := NB206_232.out
       have hns31_1 := NB207_232.out
       have hms31_0 := NB232_206.out
       have hms31_1 := NB232_207.out
       have hs32 : w'.cell? ⟨gb232, 1, none⟩ = some (.slice none 0 0) := (blk_cell BK232.out 1).trans rfl
       have hfs32 := blk_frozen BK232.out 1
       have hns32_0 := NB206_232.out
       have hns32_1 := NB207_232.out
       have hms32_0 := NB232_206.out
       have hms32_1 := NB232_207.out
       have hs33 : w'.cell? ⟨gb232, 2, none⟩ = some (.slice none 0 0) := (blk_cell BK232.out 2).trans rfl
       have hfs33 := blk_frozen BK232.out 2
       have hns33_0 := NB206_232.out
       have hns33_1 := NB207_232.out
       have hms33_0 := NB232_206.out
       have hms33_1 := NB232_207.out
       have hs34 : w'.cell? ⟨gb232, 3, none⟩ = some (.slice none 0 0) := (blk_cell BK232.out 3).trans rfl
       have hfs34 := blk_frozen BK232.out 3
       have hns34_0 := NB206_232.out
       have hns34_1 := NB207_232.out
       have hms34_0 := NB232_206.out
       have hms34_1 := NB232_207.out
       have hs35 : w'.cell? ⟨gb232, 4, none⟩ = some (.slice none 0 0) := (blk_cell BK232.out 4).trans rfl
       have hfs35 := blk_frozen BK232.out 4
       have hns35_0 := NB206_232.out
       have hns35_1 := NB207_232.out
       have hms35_0 := NB232_206.out
       have hms35_1 := NB232_207.out
       have hs36 : w'.cell? ⟨gb232, 5, none⟩ = some (.slice none 0 0) := (blk_cell BK232.out 5).trans rfl
       have hfs36 := blk_frozen BK232.out 5
       have hns36_0 := NB206_232.out
       have hns36_1 := NB207_232.out
       have hms36_0 := NB232_206.out
       have hms36_1 := NB232_207.out
       refine skip_ (w1 := ?_) (by rfl) rfl ?_ ?_
       rotate_left
       ·go_simp
        rfl
       refine hK.out _ _ ⟨v209, .slice Ao30 y211.length co30, v215, .slice Ao29 y217.length co29, v221, .slice Ao28 y223.length co28, v227, .slice Ao27 y229.length co27, gb232, m18_, m19_, (by rw [ha.out]; exact putSel_none (v := undef) rfl), (by refine blk_far ?_ NB206_232.out _; (with_reducible repeat (first | refine blk_drewN ?_ _ | refine blk_drew ?_ | refine blk_alloc ?_ _)); refine blk_far ?_ NB206_232.out _; (with_reducible repeat (first | refine blk_drewN ?_ _ | refine blk_drew ?_ | refine blk_alloc ?_ _)); refine blk_far ?_ NB206_232.out _; (with_reducible repeat (first | refine blk_drewN ?_ _ | refine blk_drew ?_ | refine blk_alloc ?_ _)); refine blk_far ?_ NB206_232.out _; (with_reducible repeat (first | refine blk_drewN ?_ _ | refine blk_drew ?_ | refine blk_alloc ?_ _)); refine blk_far ?_ NB206_232.out _; (with_reducible repeat (first | refine blk_drewN ?_ _ | refine blk_drew ?_ | refine blk_alloc ?_ _)); refine blk_far ?_ NB206_232.out _; (with_reducible repeat (first | refine blk_drewN ?_ _ | refine blk_drew ?_ | refine blk_alloc ?_ _)); exact BK206.out), (by refine blk_far ?_ NB207_232.out _; (with_reducible repeat (first | refine blk_drewN ?_ _ | refine blk_drew ?_ | refine blk_alloc ?_ _)); refine blk_far ?_ NB207_232.out _; (with_reducible repeat (first | refine blk_drewN ?_ _ | refine blk_drew ?_ | refine blk_alloc ?_ _)); refine blk_far ?_ NB207_232.out _; (with_reducible repeat (first | refine blk_drewN ?_ _ | refine blk_drew ?_ | refine blk_alloc ?_ _)); refine blk_far ?_ NB207_232.out _; (with_reducible repeat (first | refine blk_drewN ?_ _ | refine blk_drew ?_ | refine blk_alloc ?_ _)); refine blk_far ?_ NB207_232.out _; (with_reducible repeat (first | refine blk_drewN ?_ _ | refine blk_drew ?_ | refine blk_alloc ?_ _)); refine blk_far ?_ NB207_232.out _; (with_reducible repeat (first | refine blk_drewN ?_ _ | refine blk_drew ?_ | refine blk_alloc ?_ _)); exact BK207.out), (by repeat (first | (with_reducible first | exact HB.out | apply below_alloc | apply pw_below_drewN | apply below_drew1 | refine below_set ?_ GE206.out | refine below_set ?_ GE207.out | refine below_set ?_ GE232.out) | exact HB.out)), fun _ h1_ => absurd ((hon 5 (by kernel_rfl)).symm.trans h1_) (by decide), fun _ => (by exact Kd.R_mono (Kd.R_far (p := ⟨gb232, 5, none⟩) (Kd.R_far (p := ⟨gb232, 4, none⟩) (Kd.R_far (p := ⟨gb232, 3, none⟩) (Kd.R_far (p := ⟨gb232, 2, none⟩) (Kd.R_far (p := ⟨gb232, 1, none⟩) (Kd.R_far (p := ⟨gb232, 0, none⟩) (Kd.R_types HO213.out BK232.out (by decide)) (fun _ hk => hk.2) (.int .i64 a0_0)) (fun _ hk => hk.2) (.slice none 0 0)) (fun _ hk => hk.2) (.slice Ao30 y211.length co30)) (fun _ hk => hk.2) (.slice Ao29 y217.length co29)) (fun _ hk => hk.2) (.slice Ao28 y223.length co28)) (fun _ hk => hk.2) (.slice Ao27 y229.length co27)) (fun _ hk => ⟨hk.1.1, ⟨hk.1.2.1, hk.1.2.2⟩⟩)), fun _ h1_ => absurd ((hon 9 (by kernel_rfl)).symm.trans h1_) (by decide), fun _ => (by exact Kd.R_mono (Kd.R_far (p := ⟨gb232, 5, none⟩) (Kd.R_far (p := ⟨gb232, 4, none⟩) (Kd.R_far (p := ⟨gb232, 3, none⟩) (Kd.R_far (p := ⟨gb232, 2, none⟩) (Kd.R_far (p := ⟨gb232, 1, none⟩) (Kd.R_far (p := ⟨gb232, 0, none⟩) (Kd.R_types HO219.out BK232.out (by decide)) (fun _ hk => hk.2) (.int .i64 a0_0)) (fun _ hk => hk.2) (.slice none 0 0)) (fun _ hk => hk.2) (.slice Ao30 y211.length co30)) (fun _ hk => hk.2) (.slice Ao29 y217.length co29)) (fun _ hk => hk.2) (.slice Ao28 y223.length co28)) (fun _ hk => hk.2) (.slice Ao27 y229.length co27)) (fun _ hk => ⟨hk.1.1, ⟨hk.1.2.1, hk.1.2.2⟩⟩)), fun _ h1_ => absurd ((hon 13 (by kernel_rfl)).symm.trans h1_) (by decide), fun _ => (by exact Kd.R_mono (Kd.R_far (p := ⟨gb232, 5, none⟩) (Kd.R_far (p := ⟨gb232, 4, none⟩) (Kd.R_far (p := ⟨gb232, 3, none⟩) (Kd.R_far (p := ⟨gb232, 2, none⟩) (Kd.R_far (p := ⟨gb232, 1, none⟩) (Kd.R_far (p := ⟨gb232, 0, none⟩) (Kd.R_types HO225.out BK232.out (by decide)) (fun _ hk => hk.2) (.int .i64 a0_0)) (fun _ hk => hk.2) (.slice none 0 0)) (fun _ hk => hk.2) (.slice Ao30 y211.length co30)) (fun _ hk => hk.2) (.slice Ao29 y217.length co29)) (fun _ hk => hk.2) (.slice Ao28 y223.length co28)) (fun _ hk => hk.2) (.slice Ao27 y229.length co27)) (fun _ hk => ⟨hk.1.1, ⟨hk.1.2.1, hk.1.2.2⟩⟩)), fun _ h1_ => absurd ((hon 17 (by kernel_rfl)).symm.trans h1_) (by decide), fun _ => (by exact Kd.R_mono (Kd.R_far (p := ⟨gb232, 5, none⟩) (Kd.R_far (p := ⟨gb232, 4, none⟩) (Kd.R_far (p := ⟨gb232, 3, none⟩) (Kd.R_far (p := ⟨gb232, 2, none⟩) (Kd.R_far (p := ⟨gb232, 1, none⟩) (Kd.R_far (p := ⟨gb232, 0, none⟩) (Kd.R_types HO231.out BK232.out (by decide)) (fun _ hk => hk.2) (.int .i64 a0_0)) (fun _ hk => hk.2) (.slice none 0 0)) (fun _ hk => hk.2) (.slice Ao30 y211.length co30)) (fun _ hk => hk.2) (.slice Ao29 y217.length co29)) (fun _ hk => hk.2) (.slice Ao28 y223.length co28)) (fun _ hk => hk.2) (.slice Ao27 y229.length co27)) (fun _ hk => ⟨hk.1.1, ⟨hk.1.2.1, hk.1.2.2⟩⟩)), fun _ h1_ => absurd ((up_self b 20).symm.trans h1_) (by decide), fun _ => GW232.out, fun _ => GE232.out, fun _ => NB206_232.out, fun _ => NB232_206.out, fun _ => NB207_232.out, fun _ => NB232_207.out, fun _ => (by refine blk_put (cs := #[.int .i64 a0_0, .slice none 0 0, .slice Ao30 y211.length co30, .slice Ao29 y217.length co29, .slice Ao28 y223.length co28, .slice none 0 0]) ?_ 5 _ rfl; (with_reducible repeat (first | refine blk_drewN ?_ _ | refine blk_drew ?_ | refine blk_alloc ?_ _)); refine blk_put (cs := #[.int .i64 a0_0, .slice none 0 0, .slice Ao30 y211.length co30, .slice Ao29 y217.length co29, .slice none 0 0, .slice none 0 0]) ?_ 4 _ rfl; (with_reducible repeat (first | refine blk_drewN ?_ _ | refine blk_drew ?_ | refine blk_alloc ?_ _)); refine blk_put (cs := #[.int .i64 a0_0, .slice none 0 0, .slice Ao30 y211.length co30, .slice none 0 0, .slice none 0 0, .slice none 0 0]) ?_ 3 _ rfl; (with_reducible repeat (first | refine blk_drewN ?_ _ | refine blk_drew ?_ | refine blk_alloc ?_ _)); refine blk_put (cs := #[.int .i64 a0_0, .slice none 0 0, .slice none 0 0, .slice none 0 0, .slice none 0 0, .slice none 0 0]) ?_ 2 _ rfl; (with_reducible repeat (first | refine blk_drewN ?_ _ | refine blk_drew ?_ | refine blk_alloc ?_ _)); refine blk_put (cs := #[.int .i64 a0_0, .slice none 0 0, .slice none 0 0, .slice none 0 0, .slice none 0 0, .slice none 0 0]) ?_ 1 _ rfl; (with_reducible repeat (first | refine blk_drewN ?_ _ | refine blk_drew ?_ | refine blk_alloc ?_ _)); refine blk_put (cs := #[.int .i64 0, .slice none 0 0, .slice none 0 0, .slice none 0 0, .slice none 0 0, .slice none 0 0]) ?_ 0 _ rfl; (with_reducible repeat (first | refine blk_drewN ?_ _ | refine blk_drew ?_ | refine blk_alloc ?_ _)); exact BK232.out), Q_X18_, Q_X19_⟩
      exact steps_nil
     rintro b a w32 hall ⟨v209, v212, v215, v218, v221, v224, v227, v230, gb232, m18_, m19_, ha, Q_BK206, Q_BK207, Q_HB, Q_HO210, Q_HO213, Q_HO216, Q_HO219, Q_HO222, Q_HO225, Q_HO228, Q_HO231, Q_BK232, Q_GW232, Q_GE232, Q_NB206_232, Q_NB232_206, Q_NB207_232, Q_NB232_207, Q_BK232_e20, Q_X18_, Q_X19_⟩
     clear BK206 BK207 HB
     have hb1_ := hall 1 (by kernel_rfl)
     have hb2_ := hall 2 (by kernel_rfl)
     have hb4_ := hall 4 (by kernel_rfl)
     have hb5_ := hall 5 (by kernel_rfl)
     have hb6_ := hall 6 (by kernel_rfl)
     have hb8_ := hall 8 (by kernel_rfl)
     have hb9_ := hall 9 (by kernel_rfl)
     have hb10_ := hall 10 (by kernel_rfl)
     have hb12_ := hall 12 (by kernel_rfl)
     have hb13_ := hall 13 (by kernel_rfl)
     have hb14_ := hall 14 (by kernel_rfl)
     have hb16_ := hall 16 (by kernel_rfl)
     have hb17_ := hall 17 (by kernel_rfl)
     have hb18_ := hall 18 (by kernel_rfl)
     have hb19_ := hall 19 (by kernel_rfl)
     have hb20_ := hall 20 (by kernel_rfl)
     subst ha
     obtain rfl := Q_X18_ hb18_
     obtain rfl := Q_X19_ hb19_
     simp only [putSel, hb1_, hb2_, hb4_, hb5_, hb6_, hb8_, hb9_, hb10_, hb12_, hb13_, hb14_, hb16_, hb17_, hb18_, hb19_, hb20_, if_true, Act.put, List.setIfInBounds_toArray, List.set_cons_zero, List.set_cons_succ]
     have BK206 := Aside0.mk Q_BK206
     clear Q_BK206
     have BK207 := Aside0.mk Q_BK207
     clear Q_BK207
     have HB := Aside0.mk Q_HB
     clear Q_HB
     clear Q_HO210
     have HO213 := Aside0.mk (Kd.R_mono (ok' := fun k_ => some k_ ≠ (v218 : Value).ownBlock ∧ some k_ ≠ (v224 : Value).ownBlock ∧ some k_ ≠ (v230 : Value).ownBlock) (Q_HO213 hb5_) (fun k_ hk => ⟨hk.2.1 hb9_, hk.2.2.2.1 hb13_, hk.2.2.2.2.2 hb17_⟩))
     clear Q_HO213
     clear Q_HO216
     have HO219 := Aside0.mk (Kd.R_mono (ok' := fun k_ => some k_ ≠ (v212 : Value).ownBlock ∧ some k_ ≠ (v224 : Value).ownBlock ∧ some k_ ≠ (v230 : Value).ownBlock) (Q_HO219 hb9_) (fun k_ hk => ⟨hk.2.1 hb5_, hk.2.2.2.1 hb13_, hk.2.2.2.2.2 hb17_⟩))
     clear Q_HO219
     clear Q_HO222
     have HO225 := Aside0.mk (Kd.R_mono (ok' := fun k_ => some k_ ≠ (v212 : Value).ownBlock ∧ some k_ ≠ (v218 : Value).ownBlock ∧ some k_ ≠ (v230 : Value).ownBlock) (Q_HO225 hb13_) (fun k_ hk => ⟨hk.2.1 hb5_, hk.2.2.2.1 hb9_, hk.2.2.2.2.2 hb17_⟩))
     clear Q_HO225
     clear Q_HO228
     have HO231 := Aside0.mk (Kd.R_mono (ok' := fun k_ => some k_ ≠ (v212 : Value).ownBlock ∧ some k_ ≠ (v218 : Value).ownBlock ∧ some k_ ≠ (v224 : Value).ownBlock) (Q_HO231 hb17_) (fun k_ hk => ⟨hk.2.1 hb5_, hk.2.2.2.1 hb9_, hk.2.2.2.2.2 hb13_⟩))
     clear Q_HO231
     clear Q_BK232
     have GW232 := Aside0.mk (Q_GW232 hb19_)
     clear Q_GW232
     have GE232 := Aside0.mk (Q_GE232 hb19_)
     clear Q_GE232
     have NB206_232 := Aside0.mk (Q_NB206_232 hb19_)
     clear Q_NB206_232
     have NB232_206 := Aside0.mk (Q_NB232_206 hb19_)
     clear Q_NB232_206
     have NB207_232 := Aside0.mk (Q_NB207_232 hb19_)
     clear Q_NB207_232
     have NB232_207 := Aside0.mk (Q_NB232_207 hb19_)
     clear Q_NB232_207
     have BK232 := Aside0.mk (Q_BK232_e20 hb20_)
     clear Q_BK232_e20
     clear hall hb1_ hb2_ hb4_ hb5_ hb6_ hb8_ hb9_ hb10_ hb12_ hb13_ hb14_ hb16_ hb17_ hb18_ hb19_ hb20_
     obtain ⟨Ao33, co33, eo33⟩ := Kd.R_slice HO231.out
     (first | subst eo33 | (injection eo33 with f1_ f2_ f3_; have f4_ := f1_.symm; have f5_ := f3_.symm; clear f1_ f2_ f3_; subst f4_; subst f5_))
     obtain ⟨Ao34, co34, eo34⟩ := Kd.R_slice HO225.out
     (first | subst eo34 | (injection eo34 with f1_ f2_ f3_; have f4_ := f1_.symm; have f5_ := f3_.symm; clear f1_ f2_ f3_; subst f4_; subst f5_))
     obtain ⟨Ao35, co35, eo35⟩ := Kd.R_slice HO219.out
     (first | subst eo35 | (injection eo35 with f1_ f2_ f3_; have f4_ := f1_.symm; have f5_ := f3_.symm; clear f1_ f2_ f3_; subst f4_; subst f5_))
     obtain ⟨Ao36, co36, eo36⟩ := Kd.R_slice HO213.out
     (first | subst eo36 | (injection eo36 with f1_ f2_ f3_; have f4_ := f1_.symm; have f5_ := f3_.symm; clear f1_ f2_ f3_; subst f4_; subst f5_))
     try go_wp2
     go_loopg [4] k (fun kq v4 w' => ∃ (x4_1 : Int) (x233001_1 : List (List Int)) (u233001 : Value), v4 = .int .i64 x4_1 ∧ Aside0 (slabvaultlaw12_own.l0 kq x4_1 a0_0 l0_1 l0_2 l0_3 l0_4 l0_5 a0_0 x233001_1 y211 y217 y223 y229 = some (r1, r2, r3, r4, r5, r6)) ∧ Aside0 (kq ≤ k) ∧ Aside0 (Kd.S (Kd.slice 3 (Kd.int .i64)) 22 w' w.heap.size (fun k_ => some k_ ≠ ((.slice Ao36 y211.length co36) : Value).ownBlock ∧ some k_ ≠ ((.slice Ao35 y217.length co35) : Value).ownBlock ∧ some k_ ≠ ((.slice Ao34 y223.length co34) : Value).ownBlock ∧ some k_ ≠ ((.slice Ao33 y229.length co33) : Value).ownBlock) u233001 x233001_1) ∧ Aside0 (Kd.R (Kd.int .i64) 3 w' w.heap.size (fun k_ => some k_ ≠ ((.slice Ao35 y217.length co35) : Value).ownBlock ∧ some k_ ≠ ((.slice Ao34 y223.length co34) : Value).ownBlock ∧ some k_ ≠ ((.slice Ao33 y229.length co33) : Value).ownBlock) (.slice Ao36 y211.length co36) y211) ∧ Aside0 (Kd.R (Kd.int .i64) 3 w' w.heap.size (fun k_ => some k_ ≠ ((.slice Ao36 y211.length co36) : Value).ownBlock ∧ some k_ ≠ ((.slice Ao34 y223.length co34) : Value).ownBlock ∧ some k_ ≠ ((.slice Ao33 y229.length co33) : Value).ownBlock) (.slice Ao35 y217.length co35) y217) ∧ Aside0 (Kd.R (Kd.int .i64) 3 w' w.heap.size (fun k_ => some k_ ≠ ((.slice Ao36 y211.length co36) : Value).ownBlock ∧ some k_ ≠ ((.slice Ao35 y217.length co35) : Value).ownBlock ∧ some k_ ≠ ((.slice Ao33 y229.length co33) : Value).ownBlock) (.slice Ao34 y223.length co34) y223) ∧ Aside0 (Kd.R (Kd.int .i64) 3 w' w.heap.size (fun k_ => some k_ ≠ ((.slice Ao36 y211.length co36) : Value).ownBlock ∧ some k_ ≠ ((.slice Ao35 y217.length co35) : Value).ownBlock ∧ some k_ ≠ ((.slice Ao34 y223.length co34) : Value).ownBlock) (.slice Ao33 y229.length co33) y229) ∧ Aside0 (w'.heap[gb206]? = some (.cells #[.int .i64 a0_0, (.slice A0_1 l0_1.length c0_1), (.slice A0_2 l0_2.length c0_2), (.slice A0_3 l0_3.length c0_3), (.slice A0_4 l0_4.length c0_4), (.slice A0_5 l0_5.length c0_5)] 33 (0, 0))) ∧ Aside0 (w'.heap[gb207]? = some (.cells #[.int .i64 0, (.slice none 0 0), (.slice none 0 0), (.slice none 0 0), (.slice none 0 0), (.slice none 0 0)] 33 (0, 0))) ∧ Aside0 (w'.heap[gb232]? = some (.cells #[.int .i64 a0_0, u233001, (.slice Ao36 y211.length co36), (.slice Ao35 y217.length co35), (.slice Ao34 y223.length co34), (.slice Ao33 y229.length co33)] 33 (0, 0))) ∧ Aside0 (Below w.heap.size w w'))
     case atStart => exact ⟨(0), (([] : List (List Int))), (.slice none 0 0), (by first | rfl | (simp; done) | (simp [*]; done)), H', ⟨Nat.le_refl _⟩, ⟨by first | exact Kd.S_nil _ _ _ _ _ | exact Kd.N_nil _ _ _ _ _ | exact Kd.V_nil _ _ _ _ _ | exact Kd.Q_nil _ _ _ _ _ | exact Kd.R_nil _ _ _ _ _⟩, ⟨by (with_reducible repeat (first | apply Kd.R_alloc | apply Kd.R_drewN | apply Kd.R_drew)); exact HO213.out⟩, ⟨by (with_reducible repeat (first | apply Kd.R_alloc | apply Kd.R_drewN | apply Kd.R_drew)); exact HO219.out⟩, ⟨by (with_reducible repeat (first | apply Kd.R_alloc | apply Kd.R_drewN | apply Kd.R_drew)); exact HO225.out⟩, ⟨by (with_reducible repeat (first | apply Kd.R_alloc | apply Kd.R_drewN | apply Kd.R_drew)); exact HO231.out⟩, ⟨by (with_reducible repeat (first | refine blk_drewN ?_ _ | refine blk_drew ?_ | refine blk_alloc ?_ _)); exact BK206.out⟩, ⟨by (with_reducible repeat (first | refine blk_drewN ?_ _ | refine blk_drew ?_ | refine blk_alloc ?_ _)); exact BK207.out⟩, ⟨by (with_reducible repeat (first | refine blk_drewN ?_ _ | refine blk_drew ?_ | refine blk_alloc ?_ _)); exact BK232.out⟩, ⟨HB.out⟩⟩
     case round =>
      clear H'
      try clear c1
      try clear c2
      try clear p2
      try clear c3
      try clear c4
      try clear c5
      obtain ⟨x4_1, x233001_1, u233001, rfl, HA, HK1, HO_233001, HO_233002, HO_233003, HO_233004, HO_233005, BK206, BK207, BK232, HB⟩ := hrel
      cases gk with
      | zero => exact absurd HA.out (by simp [slabvaultlaw12_own.l0])
      | succ k1 =>
       have H := HA.out
       clear HA
       simp only [slabvaultlaw12_own.l0] at H
       by_cases c37 : x4_1 < (l0_1.length : Int)
       ·rw [if_pos c37] at H
        have c37b0 : decide (x4_1 < (l0_1.length : Int)) = true := decide_eq_true c37
        clear c37
        obtain ⟨y233, hy233⟩ : ∃ y_ : List Int, y_ = (([] : List Int)) := ⟨_, rfl⟩
        replace H : (if 0 ≤ x4_1 then (if y233.length + (rd_L1 l0_1 x4_1).length < 17592186044416 then (if x233001_1.length < 5864062014805 then (slabvaultlaw12_own.l0 k1 (wrap64 (x4_1 + 1)) a0_0 l0_1 l0_2 l0_3 l0_4 l0_5 a0_0 (x233001_1 ++ [(y233 ++ (rd_L1 l0_1 x4_1))]) y211 y217 y223 y229) else (none)) else (none)) else (none)) = some (r1, r2, r3, r4, r5, r6) := by first | (rw [hy233]; with_reducible exact H) | (have H2_ := (Option.bind_some _ _).symm.trans H; rw [hy233]; with_reducible exact H2_) | (have H2_ := (Option.bind_some _ _).symm.trans H; with_reducible exact H2_) | with_reducible exact H | (rw [hy233]; exact H) | exact H
        have Ny233 := Aside0.mk hy233
        clear hy233
        by_cases c38 : 0 ≤ x4_1
        ·rw [if_pos c38] at H
         have c38b0 : decide (0 ≤ x4_1) = true := decide_eq_true c38
         clear c38
         by_cases c39 : y233.length + (rd_L1 l0_1 x4_1).length < 17592186044416
         ·rw [if_pos c39] at H
          have LMc39 := Aside0.mk c39
          clear c39
          obtain ⟨y237, hy237⟩ : ∃ y_ : List Int, y_ = (y233 ++ (rd_L1 l0_1 x4_1)) := ⟨_, rfl⟩
          replace H : (if x233001_1.length < 5864062014805 then (slabvaultlaw12_own.l0 k1 (wrap64 (x4_1 + 1)) a0_0 l0_1 l0_2 l0_3 l0_4 l0_5 a0_0 (x233001_1 ++ [y237]) y211 y217 y223 y229) else (none)) = some (r1, r2, r3, r4, r5, r6) := by first | (rw [hy237]; with_reducible exact H) | (have H2_ := (Option.bind_some _ _).symm.trans H; rw [hy237]; with_reducible exact H2_) | (have H2_ := (Option.bind_some _ _).symm.trans H; with_reducible exact H2_) | with_reducible exact H | (rw [hy237]; exact H) | exact H
          have Ny237 := Aside0.mk hy237
          clear hy237
          by_cases c40 : x233001_1.length < 5864062014805
          ·rw [if_pos c40] at H
           have LMc40 := Aside0.mk c40
           clear c40
           obtain ⟨y240, hy240⟩ : ∃ y_ : List (List Int), y_ = (x233001_1 ++ [y237]) := ⟨_, rfl⟩
           replace H : (slabvaultlaw12_own.l0 k1 (wrap64 (x4_1 + 1)) a0_0 l0_1 l0_2 l0_3 l0_4 l0_5 a0_0 y240 y211 y217 y223 y229) = some (r1, r2, r3, r4, r5, r6) := by first | (rw [hy240]; with_reducible exact H) | (have H2_ := (Option.bind_some _ _).symm.trans H; rw [hy240]; with_reducible exact H2_) | (have H2_ := (Option.bind_some _ _).symm.trans H; with_reducible exact H2_) | with_reducible exact H | (rw [hy240]; exact H) | exact H
           have Ny240 := Aside0.mk hy240
           clear hy240
           have H' := Aside0.mk H
           clear H
           have hnb41 := NB206_207.out
           have hnc41 := NB207_206.out
           have hnb42 := NB206_232.out
           have hnc42 := NB232_206.out
           have hcz43_0 : wr.cell? ⟨gb206, 0, none⟩ = some (.int .i64 a0_0) := (blk_cell BK206.out 0).trans rfl
           have hcz43_1 : wr.cell? ⟨gb206, 1, none⟩ = some (.slice A0_1 l0_1.length c0_1) := (blk_cell BK206.out 1).trans rfl
           have hcz43_2 : wr.cell? ⟨gb206, 2, none⟩ = some (.slice A0_2 l0_2.length c0_2) := (blk_cell BK206.out 2).trans rfl
           have hcz43_3 : wr.cell? ⟨gb206, 3, none⟩ = some (.slice A0_3 l0_3.length c0_3) := (blk_cell BK206.out 3).trans rfl
           have hcz43_4 : wr.cell? ⟨gb206, 4, none⟩ = some (.slice A0_4 l0_4.length c0_4) := (blk_cell BK206.out 4).trans rfl
           have hcz43_5 : wr.cell? ⟨gb206, 5, none⟩ = some (.slice A0_5 l0_5.length c0_5) := (blk_cell BK206.out 5).trans rfl
           have hfz43_0 := blk_frozen BK206.out 0
           have hfz43_1 := blk_frozen BK206.out 1
           have hfz43_2 := blk_frozen BK206.out 2
           have hfz43_3 := blk_frozen BK206.out 3
           have hfz43_4 := blk_frozen BK206.out 4
           have hfz43_5 := blk_frozen BK206.out 5
           try go_wp2
           have n0_ := Aside0.mk (Kd.S_drew HO_233001.out)
           have n1_ := Aside0.mk (Kd.R_drew HO_233002.out)
           have n2_ := Aside0.mk (Kd.R_drew HO_233003.out)
           have n3_ := Aside0.mk (Kd.R_drew HO_233004.out)
           have n4_ := Aside0.mk (Kd.R_drew HO_233005.out)
           have n5_ := Aside0.mk (blk_drew BK206.out)
           have n6_ := Aside0.mk (blk_drew BK207.out)
           have n7_ := Aside0.mk (blk_drew BK232.out)
           have n8_ := Aside0.mk (below_drew1 HB.out)
           clear HO_233001
           clear HO_233002
           clear HO_233003
           clear HO_233004
           clear HO_233005
           clear BK206
           clear BK207
           clear BK232
           clear HB
           have HO_233001 := n0_
           have HO_233002 := n1_
           have HO_233003 := n2_
           have HO_233004 := n3_
           have HO_233005 := n4_
           have BK206 := n5_
           have BK207 := n6_
           have BK232 := n7_
           have HB := n8_
           clear n0_ n1_ n2_ n3_ n4_ n5_ n6_ n7_ n8_
           have p236 : 0 ≤ (x4_1 : Int) := of_decide_eq_true (by first | (with_reducible assumption) | assumption)
           have q236 : x4_1 < (l0_1.length : Int) := of_decide_eq_true (by first | (with_reducible assumption) | assumption)
           obtain ⟨ad236, A236_0, c236_0, e236, hx236_0, hl236_0, hi236_0⟩ := at_L1 HR0_1.out x4_1 p236 q236
           have hw236_0 := hx236_0
           cases e236
           replace hx236_0 := (HB.out.cell (World.block_lt_of_cell? w _ hx236_0)).trans hx236_0
           have HR236_0 := Aside0.mk hi236_0
           have HC236_0 := Aside0.mk hl236_0
           clear hi236_0 hl236_0
           replace p236 := eq_true p236
           replace q236 := eq_true q236
           refine start_ (n := 13) (S := fun w' => w'.cell? ⟨gb232, 0, none⟩ = some (.int .i64 a0_0) ∧ w'.cell? ⟨gb232, 1, none⟩ = some (u233001) ∧ w'.cell? ⟨gb232, 2, none⟩ = some (.slice Ao36 y211.length co36) ∧ w'.cell? ⟨gb232, 3, none⟩ = some (.slice Ao35 y217.length co35) ∧ w'.cell? ⟨gb232, 4, none⟩ = some (.slice Ao34 y223.length co34) ∧ w'.cell? ⟨gb232, 5, none⟩ = some (.slice Ao33 y229.length co33) ∧ w'.cell? ⟨gb206, 0, none⟩ = some (.int .i64 a0_0) ∧ w'.cell? ⟨gb206, 1, none⟩ = some (.slice (some ad236) l0_1.length c0_1) ∧ w'.cell? ⟨gb206, 2, none⟩ = some (.slice A0_2 l0_2.length c0_2) ∧ w'.cell? ⟨gb206, 3, none⟩ = some (.slice A0_3 l0_3.length c0_3) ∧ w'.cell? ⟨gb206, 4, none⟩ = some (.slice A0_4 l0_4.length c0_4) ∧ w'.cell? ⟨gb206, 5, none⟩ = some (.slice A0_5 l0_5.length c0_5) ∧ w'.cell? (ad236.add (x4_1).toNat) = some (.slice A236_0 (rd_L1 l0_1 x4_1).length c236_0)) (ds := [12]) #[false, false, false, false, false, false, false, false, false, false, false, false, false] (by kernel_rfl) rfl rfl ⟨(blk_cell BK232.out 0).trans rfl, (blk_cell BK232.out 1).trans rfl, (blk_cell BK232.out 2).trans rfl, (blk_cell BK232.out 3).trans rfl, (blk_cell BK232.out 4).trans rfl, (blk_cell BK232.out 5).trans rfl, (blk_cell BK206.out 0).trans rfl, (blk_cell BK206.out 1).trans rfl, (blk_cell BK206.out 2).trans rfl, (blk_cell BK206.out 3).trans rfl, (blk_cell BK206.out 4).trans rfl, (blk_cell BK206.out 5).trans rfl, ((HB.out.cell (World.block_lt_of_cell? w _ hw236_0)).trans hw236_0)⟩ (fun hHeld => ?_); refine with_tabW slabvaultlaw12_own.tab5 slabvaultlaw12_own.bits5 (fun HT_ HW_ => ?_)
           generalize wr.drew = w44 at HO_233001 HO_233002 HO_233003 HO_233004 HO_233005 BK206 BK207 BK232 HB HR236_0 hx236_0 hHeld ⊢
           refine pure_ (i := 0) (N := some 31) (v := ?_) (a' := ?_) #[true, false, false, false, false, false, false, false, false, false, false, false, false] rfl rfl (any_of HT_.out (by kernel_rfl)) (fun _ _ _ h => h) (Or.inl ⟨by rfl, ?_⟩) ?_ ?_
           rotate_left
           ·intro w'
            go_simp
            with_reducible rfl
           rotate_left
           ·simp only [Act.put, List.setIfInBounds_toArray, List.set_cons_zero, List.set_cons_succ, i64_w, i32_w]
            rfl
           refine pure_ (i := 3) (N := some 34) (v := ?_) (a' := ?_) #[true, false, false, true, false, false, false, false, false, false, false, false, false] rfl rfl (any_of HT_.out (by kernel_rfl)) (fun _ _ _ h => h) (Or.inl ⟨by rfl, ?_⟩) ?_ ?_
           rotate_left
           ·intro w'
            go_simp
            with_reducible rfl
           rotate_left
           ·simp only [Act.put, List.setIfInBounds_toArray, List.set_cons_zero, List.set_cons_succ, i64_w, i32_w]
            rfl
           refine pure_ (i := 5) (N := some 36) (v := ?_) (a' := ?_) #[true, false, false, true, false, true, false, false, false, false, false, false, false] rfl rfl (any_of HT_.out (by kernel_rfl)) (fun _ _ _ h => h) (Or.inl ⟨by rfl, ?_⟩) ?_ ?_
           rotate_left
           ·intro w'
            go_simp
            with_reducible rfl
           rotate_left
           ·simp only [Act.put, List.setIfInBounds_toArray, List.set_cons_zero, List.set_cons_succ, i64_w, i32_w]
            rfl
           refine take_ (i := 1) (N := some 32) (v := ?_) (a' := ?_) #[true, true, false, true, false, true, false, false, false, false, false, false, false] rfl rfl (take_ofW HT_.out HW_.out (by kernel_rfl)) (fun _ _ _ h => h) (Or.inl ⟨by rfl, ?_⟩) hHeld ?_ ?_
           rotate_left
           ·rintro w' ⟨s0, s1, s2, s3, s4, s5, s6, s7, s8, s9, s10, s11, s12⟩
            go_simp
            with_reducible rfl
           rotate_left
           ·simp only [Act.put, List.setIfInBounds_toArray, List.set_cons_zero, List.set_cons_succ, i64_w, i32_w]
            rfl
           refine take_ (i := 4) (N := some 35) (v := ?_) (a' := ?_) #[true, true, false, true, true, true, false, false, false, false, false, false, false] rfl rfl (take_ofW HT_.out HW_.out (by kernel_rfl)) (fun _ _ _ h => h) (Or.inl ⟨by rfl, ?_⟩) hHeld ?_ ?_
           rotate_left
           ·rintro w' ⟨s0, s1, s2, s3, s4, s5, s6, s7, s8, s9, s10, s11, s12⟩
            go_simp
            with_reducible rfl
           rotate_left
           ·simp only [Act.put, List.setIfInBounds_toArray, List.set_cons_zero, List.set_cons_succ, i64_w, i32_w]
            rfl
           refine pure_ (i := 6) (N := some 37) (v := ?_) (a' := ?_) #[true, true, false, true, true, true, true, false, false, false, false, false, false] rfl rfl (any_of HT_.out (by kernel_rfl)) (fun _ _ _ h => h) (Or.inl ⟨by rfl, ?_⟩) ?_ ?_
           rotate_left
           ·intro w'
            go_simp
            with_reducible rfl
           rotate_left
           ·simp only [Act.put, List.setIfInBounds_toArray, List.set_cons_zero, List.set_cons_succ, i64_w, i32_w]
            rfl
           refine take_ (i := 7) (N := some 38) (v := ?_) (a' := ?_) #[true, true, false, true, true, true, true, true, false, false, false, false, false] rfl rfl (take_ofW HT_.out HW_.out (by kernel_rfl)) (fun _ _ _ h => h) (Or.inl ⟨by rfl, ?_⟩) hHeld ?_ ?_
           rotate_left
           ·rintro w' ⟨s0, s1, s2, s3, s4, s5, s6, s7, s8, s9, s10, s11, s12⟩
            go_simp
            with_reducible rfl
           rotate_left
           ·simp only [Act.put, List.setIfInBounds_toArray, List.set_cons_zero, List.set_cons_succ, i64_w, i32_w]
            rfl
           refine one_ (i := 2) (N := some 33) #[true, true, true, true, true, true, true, true, false, false, false, false, false] rfl rfl (one_of HT_.out (by kernel_rfl)) (by decide) (fun K hK => ?_)
           refine Kd.R_lit_step (Kd.int .i64) _ 3 ?hg (N := 33) ?hd (xs := ([] : List Int)) (inner := []) (ok := fun _ => True) (okp := fun _ => True) ?hr ?hp (fun _ hk => hk) trivial (Below.refl _ _) (Nat.le_refl _) (by simp) ?_; (case hd => rfl); (case hg => rfl); (case hr => first | (go_simp; done) | (go_simp; rfl)); (case hp => exact (Reps.none _ _))
           intro v234 w45 ho46 hb hg_ hnew_
           clear hg_ hnew_
           (first | rw [← Ny233.out] at ho46 | (simp only [Int.reduceToNat] at ho46; rw [← Ny233.out] at ho46))
           have n0_ := Aside0.mk (Kd.S_elder' (by exact HO_233001.out) (Kd.R_base ho46) hb)
           have n1_ := Aside0.mk (Kd.R_elder' (by exact HO_233002.out) (Kd.R_base ho46) hb)
           have n2_ := Aside0.mk (Kd.R_elder' (by exact HO_233003.out) (Kd.R_base ho46) hb)
           have n3_ := Aside0.mk (Kd.R_elder' (by exact HO_233004.out) (Kd.R_base ho46) hb)
           have n4_ := Aside0.mk (Kd.R_elder' (by exact HO_233005.out) (Kd.R_base ho46) hb)
           have n5_ := Aside0.mk (Kd.R_lower (Kd.R_new' (Kd.R_new' (Kd.R_new' (Kd.R_new' ho46 (Kd.R_lt (by exact HO_233002.out))) (Kd.R_lt (by exact HO_233003.out))) (Kd.R_lt (by exact HO_233004.out))) (Kd.R_lt (by exact HO_233005.out))) (below_size (HB.out)))
           have n6_ := Aside0.mk (blk_below (g := gb206) (o := .cells #[.int .i64 a0_0, .slice (some ad236) l0_1.length c0_1, .slice A0_2 l0_2.length c0_2, .slice A0_3 l0_3.length c0_3, .slice A0_4 l0_4.length c0_4, .slice A0_5 l0_5.length c0_5] 33 (0, 0)) (by exact BK206.out) hb)
           have n7_ := Aside0.mk (blk_below (g := gb207) (o := .cells #[.int .i64 0, .slice none 0 0, .slice none 0 0, .slice none 0 0, .slice none 0 0, .slice none 0 0] 33 (0, 0)) (by exact BK207.out) hb)
           have n8_ := Aside0.mk (blk_below (g := gb232) (o := .cells #[.int .i64 a0_0, u233001, .slice Ao36 y211.length co36, .slice Ao35 y217.length co35, .slice Ao34 y223.length co34, .slice Ao33 y229.length co33] 33 (0, 0)) (by exact BK232.out) hb)
           have n9_ := Aside0.mk (below_step (HB.out) hb)
           clear HO_233001
           clear HO_233002
           clear HO_233003
           clear HO_233004
           clear HO_233005
           clear BK206
           clear BK207
           clear BK232
           clear HB
           have HO_233001 := n0_
           have HO_233002 := n1_
           have HO_233003 := n2_
           have HO_233004 := n3_
           have HO_233005 := n4_
           have HO235 := n5_
           have BK206 := n6_
           have BK207 := n7_
           have BK232 := n8_
           have HB := n9_
           clear n0_ n1_ n2_ n3_ n4_ n5_ n6_ n7_ n8_ n9_
           clear hb ho46
           refine hK.out _ _ ⟨(blk_cell BK232.out 0).trans rfl, (blk_cell BK232.out 1).trans rfl, (blk_cell BK232.out 2).trans rfl, (blk_cell BK232.out 3).trans rfl, (blk_cell BK232.out 4).trans rfl, (blk_cell BK232.out 5).trans rfl, (blk_cell BK206.out 0).trans rfl, (blk_cell BK206.out 1).trans rfl, (blk_cell BK206.out 2).trans rfl, (blk_cell BK206.out 3).trans rfl, (blk_cell BK206.out 4).trans rfl, (blk_cell BK206.out 5).trans rfl, ((HB.out.cell (World.block_lt_of_cell? w _ hw236_0)).trans hw236_0)⟩ (fun hHeld => ?_)
           clear hK K
           refine norm_ (a' := ?_) ?_ ?_
           rotate_left
           ·show Act.put _ (some 33) _ = _
            simp only [Act.put, List.setIfInBounds_toArray, List.set_cons_zero, List.set_cons_succ, i64_w, i32_w]
            rfl
           refine one_ (i := 8) (N := some 39) #[true, true, true, true, true, true, true, true, true, false, false, false, false] rfl rfl (one_of HT_.out (by kernel_rfl)) (by decide) (fun K hK => ?_)
           refine Kd.R_append_rows_step (Kd.int .i64) (w0 := w) w.heap.size (by rfl) (.tmp 33) (.tmp 38) 22 3 (.int .i64 0) 8 rfl Try.underlying22 info3 rfl (by decide) (by omega) v234 y233 (rd_L1 l0_1 x4_1) _ _ _ (fun k_ => some k_ ≠ (.slice Ao36 y211.length co36 : Value).ownBlock ∧ some k_ ≠ (.slice Ao35 y217.length co35 : Value).ownBlock ∧ some k_ ≠ (.slice Ao34 y223.length co34 : Value).ownBlock ∧ some k_ ≠ (.slice Ao33 y229.length co33 : Value).ownBlock) (fun _ => False) (by first | rfl | exact eval_of e33) (by first | rfl | exact eval_of e38) ?aO ?aR (fun _ _ h => h) (fun _ h => h.elim) ?aF ?aB ?aS ?aL ?_
           (case aR => repeat (first | exact (Kd.C_below HR236_0.out HB.out) | (with_reducible refine Kd.C_alloc ?_ _) | (with_reducible refine Kd.C_drewN ?_ _) | (with_reducible refine Kd.C_drew ?_)))
           (case aB => exact (HB.out))
           (case aF => exact (fun k_ hk => ⟨Kd.fresh' (Kd.R_lt (by exact HO_233002.out)) k_ hk, Kd.fresh' (Kd.R_lt (by exact HO_233003.out)) k_ hk, Kd.fresh' (Kd.R_lt (by exact HO_233004.out)) k_ hk, Kd.fresh' (Kd.R_lt (by exact HO_233005.out)) k_ hk⟩))
           (case aO => exact (by exact Kd.R_mono HO235.out (fun _ hk => ⟨hk.1.1.1.2, ⟨hk.1.1.2, ⟨hk.1.2, hk.2⟩⟩⟩)))
           (case aS => exact (below_size (HB.out)))
           (case aL => have := LMc39.out; omega)
           intro v238 w47 ho hb hg hat
           rw [← Ny237.out] at ho
           have n0_ := Aside0.mk (Kd.S_after (ok := (fun k_ => some k_ ≠ (.slice Ao36 y211.length co36 : Value).ownBlock ∧ some k_ ≠ (.slice Ao35 y217.length co35 : Value).ownBlock ∧ some k_ ≠ (.slice Ao34 y223.length co34 : Value).ownBlock ∧ some k_ ≠ (.slice Ao33 y229.length co33 : Value).ownBlock)) (by exact HO_233001.out) hg hat)
           have n1_ := Aside0.mk (Kd.R_after (ok := (fun k_ => some k_ ≠ (.slice Ao35 y217.length co35 : Value).ownBlock ∧ some k_ ≠ (.slice Ao34 y223.length co34 : Value).ownBlock ∧ some k_ ≠ (.slice Ao33 y229.length co33 : Value).ownBlock)) (by exact HO_233002.out) hg hat)
           have n2_ := Aside0.mk (Kd.R_after (ok := (fun k_ => some k_ ≠ (.slice Ao36 y211.length co36 : Value).ownBlock ∧ some k_ ≠ (.slice Ao34 y223.length co34 : Value).ownBlock ∧ some k_ ≠ (.slice Ao33 y229.length co33 : Value).ownBlock)) (by exact HO_233003.out) hg hat)
           have n3_ := Aside0.mk (Kd.R_after (ok := (fun k_ => some k_ ≠ (.slice Ao36 y211.length co36 : Value).ownBlock ∧ some k_ ≠ (.slice Ao35 y217.length co35 : Value).ownBlock ∧ some k_ ≠ (.slice Ao33 y229.length co33 : Value).ownBlock)) (by exact HO_233004.out) hg hat)
           have n4_ := Aside0.mk (Kd.R_after (ok := (fun k_ => some k_ ≠ (.slice Ao36 y211.length co36 : Value).ownBlock ∧ some k_ ≠ (.slice Ao35 y217.length co35 : Value).ownBlock ∧ some k_ ≠ (.slice Ao34 y223.length co34 : Value).ownBlock)) (by exact HO_233005.out) hg hat)
           have n5_ := Aside0.mk (blk_grown (g := gb206) (o := .cells #[.int .i64 a0_0, .slice (some ad236) l0_1.length c0_1, .slice A0_2 l0_2.length c0_2, .slice A0_3 l0_3.length c0_3, .slice A0_4 l0_4.length c0_4, .slice A0_5 l0_5.length c0_5] 33 (0, 0)) (by exact BK206.out) hg (Kd.R_ne HO235.out BK206.out (by decide)))
           have n6_ := Aside0.mk (blk_grown (g := gb207) (o := .cells #[.int .i64 0, .slice none 0 0, .slice none 0 0, .slice none 0 0, .slice none 0 0, .slice none 0 0] 33 (0, 0)) (by exact BK207.out) hg (Kd.R_ne HO235.out BK207.out (by decide)))
           have n7_ := Aside0.mk (blk_grown (g := gb232) (o := .cells #[.int .i64 a0_0, u233001, .slice Ao36 y211.length co36, .slice Ao35 y217.length co35, .slice Ao34 y223.length co34, .slice Ao33 y229.length co33] 33 (0, 0)) (by exact BK232.out) hg (Kd.R_ne HO235.out BK232.out (by decide)))
           have n8_ := Aside0.mk (hb)
           have n9_ := Aside0.mk (ho)
           clear HO_233001
           clear HO_233002
           clear HO_233003
           clear HO_233004
           clear HO_233005
           clear BK206
           clear BK207
           clear BK232
           clear HB
           clear HO235
           have HO_233001 := n0_
           have HO_233002 := n1_
           have HO_233003 := n2_
           have HO_233004 := n3_
           have HO_233005 := n4_
           have BK206 := n5_
           have BK207 := n6_
           have BK232 := n7_
           have HB := n8_
           have HO239 := n9_
           clear n0_ n1_ n2_ n3_ n4_ n5_ n6_ n7_ n8_ n9_
           clear ho hb hg hat
           obtain ⟨Ao49, co49, eo49⟩ := Kd.R_slice HO239.out
           (first | subst eo49 | (injection eo49 with f1_ f2_ f3_; have f4_ := f1_.symm; have f5_ := f3_.symm; clear f1_ f2_ f3_; subst f4_; subst f5_))
           refine hK.out _ _ ⟨(blk_cell BK232.out 0).trans rfl, (blk_cell BK232.out 1).trans rfl, (blk_cell BK232.out 2).trans rfl, (blk_cell BK232.out 3).trans rfl, (blk_cell BK232.out 4).trans rfl, (blk_cell BK232.out 5).trans rfl, (blk_cell BK206.out 0).trans rfl, (blk_cell BK206.out 1).trans rfl, (blk_cell BK206.out 2).trans rfl, (blk_cell BK206.out 3).trans rfl, (blk_cell BK206.out 4).trans rfl, (blk_cell BK206.out 5).trans rfl, ((HB.out.cell (World.block_lt_of_cell? w _ hw236_0)).trans hw236_0)⟩ (fun hHeld => ?_)
           clear hK K
           refine norm_ (a' := ?_) ?_ ?_
           rotate_left
           ·show Act.put _ (some 39) _ = _
            simp only [Act.put, List.setIfInBounds_toArray, List.set_cons_zero, List.set_cons_succ, i64_w, i32_w]
            rfl
           refine one_ (i := 9) (N := some 40) #[true, true, true, true, true, true, true, true, true, true, false, false, false] rfl rfl (one_of HT_.out (by kernel_rfl)) (by decide) (fun K hK => ?_)
           refine value_ (w1 := ?_) (v := ?_) (by rfl) rfl ?_ ?_
           rotate_left 2
           ·go_simp
            constructor
            ·rfl
            ·rfl
           refine hK.out _ _ ⟨(blk_cell (blk_alloc BK232.out _) 0).trans rfl, (blk_cell (blk_alloc BK232.out _) 1).trans rfl, (blk_cell (blk_alloc BK232.out _) 2).trans rfl, (blk_cell (blk_alloc BK232.out _) 3).trans rfl, (blk_cell (blk_alloc BK232.out _) 4).trans rfl, (blk_cell (blk_alloc BK232.out _) 5).trans rfl, (blk_cell (blk_alloc BK206.out _) 0).trans rfl, (blk_cell (blk_alloc BK206.out _) 1).trans rfl, (blk_cell (blk_alloc BK206.out _) 2).trans rfl, (blk_cell (blk_alloc BK206.out _) 3).trans rfl, (blk_cell (blk_alloc BK206.out _) 4).trans rfl, (blk_cell (blk_alloc BK206.out _) 5).trans rfl, (World.cell?_alloc_lt _ _ _ (World.block_lt_of_cell? _ _ (((HB.out.cell (World.block_lt_of_cell? w _ hw236_0)).trans hw236_0)))).trans (((HB.out.cell (World.block_lt_of_cell? w _ hw236_0)).trans hw236_0))⟩ (fun hHeld => ?_)
           clear hK K
           refine norm_ (a' := ?_) ?_ ?_
           rotate_left
           ·show Act.put _ (some 40) _ = _
            simp only [Act.put, List.setIfInBounds_toArray, List.set_cons_zero, List.set_cons_succ, i64_w, i32_w]
            rfl
           refine one_ (i := 10) (N := some 41) #[true, true, true, true, true, true, true, true, true, true, true, false, false] rfl rfl (one_of HT_.out (by kernel_rfl)) (by decide) (fun K hK => ?_)
           refine Kd.S_append_step (Kd.slice 3 (Kd.int .i64)) (w0 := w) w.heap.size (by rfl) (.tmp 32) (.tmp 40) 31 22 (.slice none 0 0) 24 rfl Try.underlying31 info22 rfl (by decide) (by omega) u233001 x233001_1 y237 [.slice Ao49 y237.length co49] (fun k_ => some k_ ≠ (.slice Ao36 y211.length co36 : Value).ownBlock ∧ some k_ ≠ (.slice Ao35 y217.length co35 : Value).ownBlock ∧ some k_ ≠ (.slice Ao34 y223.length co34 : Value).ownBlock ∧ some k_ ≠ (.slice Ao33 y229.length co33 : Value).ownBlock) (fun k_ => some k_ = (.slice Ao49 y237.length co49 : Value).ownBlock) (by first | rfl | exact eval_of e32) (by first | rfl | exact eval_of e40) ?aP (fun k_ hk_ => ((Kd.R_mono (ok' := fun k_ => ((fun k_ => some k_ ≠ (.slice Ao36 y211.length co36 : Value).ownBlock ∧ some k_ ≠ (.slice Ao35 y217.length co35 : Value).ownBlock ∧ some k_ ≠ (.slice Ao34 y223.length co34 : Value).ownBlock ∧ some k_ ≠ (.slice Ao33 y229.length co33 : Value).ownBlock)) k_ ∧ some k_ ≠ (u233001 : Value).ownBlock) (Kd.R_apart' (HO239.out) (Kd.S_typed HO_233001.out) (by decide)) (fun k_ hk => ⟨⟨hk.1.1, ⟨hk.1.2.1, ⟨hk.1.2.2.1, hk.1.2.2.2⟩⟩⟩, hk.2⟩))).1 k_ hk_.symm) ?aF ?aO ?aB ?aS ?aL ?_
           (case aP => exact Kd.M_row (Kd.R_mono (Kd.R_tight rfl (Kd.R_mono (ok' := fun k_ => ((fun k_ => some k_ ≠ (.slice Ao36 y211.length co36 : Value).ownBlock ∧ some k_ ≠ (.slice Ao35 y217.length co35 : Value).ownBlock ∧ some k_ ≠ (.slice Ao34 y223.length co34 : Value).ownBlock ∧ some k_ ≠ (.slice Ao33 y229.length co33 : Value).ownBlock)) k_ ∧ some k_ ≠ (u233001 : Value).ownBlock) (Kd.R_apart' (HO239.out) (Kd.S_typed HO_233001.out) (by decide)) (fun k_ hk => ⟨⟨hk.1.1, ⟨hk.1.2.1, ⟨hk.1.2.2.1, hk.1.2.2.2⟩⟩⟩, hk.2⟩))) (fun _ h_ => h_)))
           (case aB => exact (HB.out))
           (case aF => exact (fun k_ hk => ⟨Kd.fresh' (Kd.R_lt (by exact HO_233002.out)) k_ hk, Kd.fresh' (Kd.R_lt (by exact HO_233003.out)) k_ hk, Kd.fresh' (Kd.R_lt (by exact HO_233004.out)) k_ hk, Kd.fresh' (Kd.R_lt (by exact HO_233005.out)) k_ hk⟩))
           (case aO => exact (by exact Kd.S_mono HO_233001.out (fun k_ hk => ⟨⟨hk.1.1, ⟨hk.1.2.1, ⟨hk.1.2.2.1, hk.1.2.2.2⟩⟩⟩, fun e_ => hk.2 e_⟩)))
           (case aS => exact (below_size (HB.out)))
           (case aL => have := LMc40.out; omega)
           intro v241 w48 ho hb hg hat
           rw [← Ny240.out] at ho
           have n0_ := Aside0.mk (Kd.R_over' (by exact HO_233002.out) (Kd.S_typed (by exact HO_233001.out)) (by decide) hg)
           have n1_ := Aside0.mk (Kd.R_over' (by exact HO_233003.out) (Kd.S_typed (by exact HO_233001.out)) (by decide) hg)
           have n2_ := Aside0.mk (Kd.R_over' (by exact HO_233004.out) (Kd.S_typed (by exact HO_233001.out)) (by decide) hg)
           have n3_ := Aside0.mk (Kd.R_over' (by exact HO_233005.out) (Kd.S_typed (by exact HO_233001.out)) (by decide) hg)
           have n4_ := Aside0.mk (blk_grown (g := gb206) (o := .cells #[.int .i64 a0_0, .slice (some ad236) l0_1.length c0_1, .slice A0_2 l0_2.length c0_2, .slice A0_3 l0_3.length c0_3, .slice A0_4 l0_4.length c0_4, .slice A0_5 l0_5.length c0_5] 33 (0, 0)) (by exact BK206.out) hg (Kd.S_ne HO_233001.out BK206.out (by decide)))
           have n5_ := Aside0.mk (blk_grown (g := gb207) (o := .cells #[.int .i64 0, .slice none 0 0, .slice none 0 0, .slice none 0 0, .slice none 0 0, .slice none 0 0] 33 (0, 0)) (by exact BK207.out) hg (Kd.S_ne HO_233001.out BK207.out (by decide)))
           have n6_ := Aside0.mk (blk_grown (g := gb232) (o := .cells #[.int .i64 a0_0, u233001, .slice Ao36 y211.length co36, .slice Ao35 y217.length co35, .slice Ao34 y223.length co34, .slice Ao33 y229.length co33] 33 (0, 0)) (by exact BK232.out) hg (Kd.S_ne HO_233001.out BK232.out (by decide)))
           have n7_ := Aside0.mk (hb)
           have n8_ := Aside0.mk (ho)
           clear HO_233002
           clear HO_233003
           clear HO_233004
           clear HO_233005
           clear BK206
           clear BK207
           clear BK232
           clear HB
           clear HO_233001
           clear HO239
           have HO_233002 := n0_
           have HO_233003 := n1_
           have HO_233004 := n2_
           have HO_233005 := n3_
           have BK206 := n4_
           have BK207 := n5_
           have BK232 := n6_
           have HB := n7_
           have HO242 := n8_
           clear n0_ n1_ n2_ n3_ n4_ n5_ n6_ n7_ n8_
           clear ho hb hg hat
           obtain ⟨Ao50, co50, eo50⟩ := Kd.S_slice HO242.out
           (first | subst eo50 | (injection eo50 with f1_ f2_ f3_; have f4_ := f1_.symm; have f5_ := f3_.symm; clear f1_ f2_ f3_; subst f4_; subst f5_))
           refine hK.out _ _ ⟨(blk_cell BK232.out 0).trans rfl, (blk_cell BK232.out 1).trans rfl, (blk_cell BK232.out 2).trans rfl, (blk_cell BK232.out 3).trans rfl, (blk_cell BK232.out 4).trans rfl, (blk_cell BK232.out 5).trans rfl, (blk_cell BK206.out 0).trans rfl, (blk_cell BK206.out 1).trans rfl, (blk_cell BK206.out 2).trans rfl, (blk_cell BK206.out 3).trans rfl, (blk_cell BK206.out 4).trans rfl, (blk_cell BK206.out 5).trans rfl, ((HB.out.cell (World.block_lt_of_cell? w _ hw236_0)).trans hw236_0)⟩ (fun hHeld => ?_)
           clear hK K
           refine norm_ (a' := ?_) ?_ ?_
           rotate_left
           ·show Act.put _ (some 41) _ = _
            simp only [Act.put, List.setIfInBounds_toArray, List.set_cons_zero, List.set_cons_succ, i64_w, i32_w]
            rfl
           refine pure_ (i := 11) (N := some 42) (v := ?_) (a' := ?_) #[true, true, true, true, true, true, true, true, true, true, true, true, false] rfl rfl (any_of HT_.out (by kernel_rfl)) (fun _ _ _ h => h) (Or.inl ⟨by rfl, ?_⟩) ?_ ?_
           rotate_left
           ·intro w'
            go_simp
            with_reducible rfl
           rotate_left
           ·simp only [Act.put, List.setIfInBounds_toArray, List.set_cons_zero, List.set_cons_succ, i64_w, i32_w]
            rfl
           refine last_ (i := 12) (N := none) #[true, true, true, true, true, true, true, true, true, true, true, true, true] rfl rfl (one_of HT_.out (by kernel_rfl)) (by decide) (fun K hK => ?_)
           have hs51 : w48.cell? ⟨gb232, 1, none⟩ = some (u233001) := (blk_cell BK232.out 1).trans rfl
           have hfs51 := blk_frozen BK232.out 1
           have hns51_0 := NB206_232.out
           have hns51_1 := NB207_232.out
           have hms51_0 := NB232_206.out
           have hms51_1 := NB232_207.out
           refine skip_ (w1 := ?_) (by rfl) rfl ?_ ?_
           rotate_left
           ·go_simp
            rfl
           refine hK.out _ _ ?_
           clear hK K
           refine done_ (done_of HT_.out (by kernel_rfl)) ?_
           try go_wp2
           go_roundg k1
           case measure => have := HK1.out; omega
           case rel => exact ⟨(wrap64 (x4_1 + 1)), (y240), (.slice Ao50 y240.length co50), (by first | rfl | (simp; done) | (simp [*]; done)), H', ⟨by have := HK1.out; omega⟩, ⟨by (with_reducible repeat (first | apply Kd.S_alloc | apply Kd.S_drewN | apply Kd.S_drew)); exact Kd.S_mono (Kd.S_far (p := ⟨gb232, 1, none⟩) (Kd.S_types HO242.out BK232.out (by decide)) (fun _ hk => hk.2) (.slice Ao50 y240.length co50)) (fun _ hk => ⟨hk.1.1, ⟨hk.1.2.1, ⟨hk.1.2.2.1, hk.1.2.2.2⟩⟩⟩)⟩, ⟨by (with_reducible repeat (first | apply Kd.R_alloc | apply Kd.R_drewN | apply Kd.R_drew)); exact Kd.R_mono (Kd.R_far (p := ⟨gb232, 1, none⟩) (Kd.R_types HO_233002.out BK232.out (by decide)) (fun _ hk => hk.2) (.slice Ao50 y240.length co50)) (fun _ hk => ⟨hk.1.1.1, ⟨hk.1.1.2.1, hk.1.1.2.2⟩⟩)⟩, ⟨by (with_reducible repeat (first | apply Kd.R_alloc | apply Kd.R_drewN | apply Kd.R_drew)); exact Kd.R_mono (Kd.R_far (p := ⟨gb232, 1, none⟩) (Kd.R_types HO_233003.out BK232.out (by decide)) (fun _ hk => hk.2) (.slice Ao50 y240.length co50)) (fun _ hk => ⟨hk.1.1.1, ⟨hk.1.1.2.1, hk.1.1.2.2⟩⟩)⟩, ⟨by (with_reducible repeat (first | apply Kd.R_alloc | apply Kd.R_drewN | apply Kd.R_drew)); exact Kd.R_mono (Kd.R_far (p := ⟨gb232, 1, none⟩) (Kd.R_types HO_233004.out BK232.out (by decide)) (fun _ hk => hk.2) (.slice Ao50 y240.length co50)) (fun _ hk => ⟨hk.1.1.1, ⟨hk.1.1.2.1, hk.1.1.2.2⟩⟩)⟩, ⟨by (with_reducible repeat (first | apply Kd.R_alloc | apply Kd.R_drewN | apply Kd.R_drew)); exact Kd.R_mono (Kd.R_far (p := ⟨gb232, 1, none⟩) (Kd.R_types HO_233005.out BK232.out (by decide)) (fun _ hk => hk.2) (.slice Ao50 y240.length co50)) (fun _ hk => ⟨hk.1.1.1, ⟨hk.1.1.2.1, hk.1.1.2.2⟩⟩)⟩, ⟨by (with_reducible repeat (first | refine blk_drewN ?_ _ | refine blk_drew ?_ | refine blk_alloc ?_ _)); refine blk_far ?_ NB206_232.out _; (with_reducible repeat (first | refine blk_drewN ?_ _ | refine blk_drew ?_ | refine blk_alloc ?_ _)); exact BK206.out⟩, ⟨by (with_reducible repeat (first | refine blk_drewN ?_ _ | refine blk_drew ?_ | refine blk_alloc ?_ _)); refine blk_far ?_ NB207_232.out _; (with_reducible repeat (first | refine blk_drewN ?_ _ | refine blk_drew ?_ | refine blk_alloc ?_ _)); exact BK207.out⟩, ⟨by (with_reducible repeat (first | refine blk_drewN ?_ _ | refine blk_drew ?_ | refine blk_alloc ?_ _)); refine blk_put (cs := #[.int .i64 a0_0, u233001, .slice Ao36 y211.length co36, .slice Ao35 y217.length co35, .slice Ao34 y223.length co34, .slice Ao33 y229.length co33]) ?_ 1 _ rfl; (with_reducible repeat (first | refine blk_drewN ?_ _ | refine blk_drew ?_ | refine blk_alloc ?_ _)); exact BK232.out⟩, ⟨by repeat (first | (with_reducible first | exact HB.out | apply below_alloc | apply pw_below_drewN | apply below_drew1 | refine below_set ?_ GE206.out | refine below_set ?_ GE207.out | refine below_set ?_ GE232.out) | exact HB.out)⟩⟩
          ·rw [if_neg c40] at H
           exact absurd H (by simp)
         ·rw [if_neg c39] at H
          exact absurd H (by simp)
        ·rw [if_neg c38] at H
         exact absurd H (by simp)
       ·rw [if_neg c37] at H
        have c37b0 : decide (x4_1 < (l0_1.length : Int)) = false := decide_eq_false c37
        clear c37
        simp only [Option.some.injEq, Prod.mk.injEq] at H
        obtain ⟨rfl, rfl, rfl, rfl, rfl, rfl⟩ := H
        have hnb52 := NB206_207.out
        have hnc52 := NB207_206.out
        have hnb53 := NB206_232.out
        have hnc53 := NB232_206.out
        have hcz54_0 : wr.cell? ⟨gb206, 0, none⟩ = some (.int .i64 a0_0) := (blk_cell BK206.out 0).trans rfl
        have hcz54_1 : wr.cell? ⟨gb206, 1, none⟩ = some (.slice A0_1 l0_1.length c0_1) := (blk_cell BK206.out 1).trans rfl
        have hcz54_2 : wr.cell? ⟨gb206, 2, none⟩ = some (.slice A0_2 l0_2.length c0_2) := (blk_cell BK206.out 2).trans rfl
        have hcz54_3 : wr.cell? ⟨gb206, 3, none⟩ = some (.slice A0_3 l0_3.length c0_3) := (blk_cell BK206.out 3).trans rfl
        have hcz54_4 : wr.cell? ⟨gb206, 4, none⟩ = some (.slice A0_4 l0_4.length c0_4) := (blk_cell BK206.out 4).trans rfl
        have hcz54_5 : wr.cell? ⟨gb206, 5, none⟩ = some (.slice A0_5 l0_5.length c0_5) := (blk_cell BK206.out 5).trans rfl
        have hfz54_0 := blk_frozen BK206.out 0
        have hfz54_1 := blk_frozen BK206.out 1
        have hfz54_2 := blk_frozen BK206.out 2
        have hfz54_3 := blk_frozen BK206.out 3
        have hfz54_4 := blk_frozen BK206.out 4
        have hfz54_5 := blk_frozen BK206.out 5
        have hnb55 := NB232_207.out
        have hnc55 := NB207_232.out
        have hcz56_0 : wr.cell? ⟨gb232, 0, none⟩ = some (.int .i64 a0_0) := (blk_cell BK232.out 0).trans rfl
        have hcz56_1 : wr.cell? ⟨gb232, 1, none⟩ = some (u233001) := (blk_cell BK232.out 1).trans rfl
        have hcz56_2 : wr.cell? ⟨gb232, 2, none⟩ = some (.slice Ao36 y211.length co36) := (blk_cell BK232.out 2).trans rfl
        have hcz56_3 : wr.cell? ⟨gb232, 3, none⟩ = some (.slice Ao35 y217.length co35) := (blk_cell BK232.out 3).trans rfl
        have hcz56_4 : wr.cell? ⟨gb232, 4, none⟩ = some (.slice Ao34 y223.length co34) := (blk_cell BK232.out 4).trans rfl
        have hcz56_5 : wr.cell? ⟨gb232, 5, none⟩ = some (.slice Ao33 y229.length co33) := (blk_cell BK232.out 5).trans rfl
        have hfz56_0 := blk_frozen BK232.out 0
        have hfz56_1 := blk_frozen BK232.out 1
        have hfz56_2 := blk_frozen BK232.out 2
        have hfz56_3 := blk_frozen BK232.out 3
        have hfz56_4 := blk_frozen BK232.out 4
        have hfz56_5 := blk_frozen BK232.out 5
        have hcz57_0 : wr.cell? ⟨gb207, 0, none⟩ = some (.int .i64 0) := (blk_cell BK207.out 0).trans rfl
        have hcz57_1 : wr.cell? ⟨gb207, 1, none⟩ = some (.slice none 0 0) := (blk_cell BK207.out 1).trans rfl
        have hcz57_2 : wr.cell? ⟨gb207, 2, none⟩ = some (.slice none 0 0) := (blk_cell BK207.out 2).trans rfl
        have hcz57_3 : wr.cell? ⟨gb207, 3, none⟩ = some (.slice none 0 0) := (blk_cell BK207.out 3).trans rfl
        have hcz57_4 : wr.cell? ⟨gb207, 4, none⟩ = some (.slice none 0 0) := (blk_cell BK207.out 4).trans rfl
        have hcz57_5 : wr.cell? ⟨gb207, 5, none⟩ = some (.slice none 0 0) := (blk_cell BK207.out 5).trans rfl
        have hfz57_0 := blk_frozen BK207.out 0
        have hfz57_1 := blk_frozen BK207.out 1
        have hfz57_2 := blk_frozen BK207.out 2
        have hfz57_3 := blk_frozen BK207.out 3
        have hfz57_4 := blk_frozen BK207.out 4
        have hfz57_5 := blk_frozen BK207.out 5
        obtain ⟨Ao58, co58, eo58⟩ := Kd.S_slice HO_233001.out
        subst eo58
        go_wp2
        refine bodyPost_ret (results_cell_row rfl _ _ gb207 33 #[.int .i64 a0_0, .slice Ao58 x233001_1.length co58, .slice Ao36 y211.length co36, .slice Ao35 y217.length co35, .slice Ao34 y223.length co34, .slice Ao33 y229.length co33] (0, 0) _ rfl (by refine blk_put (cs := #[.int .i64 a0_0, .slice Ao58 x233001_1.length co58, .slice Ao36 y211.length co36, .slice Ao35 y217.length co35, .slice Ao34 y223.length co34, .slice none 0 0]) ?_ 5 _ rfl; (with_reducible repeat (first | refine blk_drewN ?_ _ | refine blk_drew ?_ | refine blk_alloc ?_ _)); refine blk_put (cs := #[.int .i64 a0_0, .slice Ao58 x233001_1.length co58, .slice Ao36 y211.length co36, .slice Ao35 y217.length co35, .slice none 0 0, .slice none 0 0]) ?_ 4 _ rfl; (with_reducible repeat (first | refine blk_drewN ?_ _ | refine blk_drew ?_ | refine blk_alloc ?_ _)); refine blk_put (cs := #[.int .i64 a0_0, .slice Ao58 x233001_1.length co58, .slice Ao36 y211.length co36, .slice none 0 0, .slice none 0 0, .slice none 0 0]) ?_ 3 _ rfl; (with_reducible repeat (first | refine blk_drewN ?_ _ | refine blk_drew ?_ | refine blk_alloc ?_ _)); refine blk_put (cs := #[.int .i64 a0_0, .slice Ao58 x233001_1.length co58, .slice none 0 0, .slice none 0 0, .slice none 0 0, .slice none 0 0]) ?_ 2 _ rfl; (with_reducible repeat (first | refine blk_drewN ?_ _ | refine blk_drew ?_ | refine blk_alloc ?_ _)); refine blk_put (cs := #[.int .i64 a0_0, .slice none 0 0, .slice none 0 0, .slice none 0 0, .slice none 0 0, .slice none 0 0]) ?_ 1 _ rfl; (with_reducible repeat (first | refine blk_drewN ?_ _ | refine blk_drew ?_ | refine blk_alloc ?_ _)); refine blk_put (cs := #[.int .i64 0, .slice none 0 0, .slice none 0 0, .slice none 0 0, .slice none 0 0, .slice none 0 0]) ?_ 0 _ rfl; (with_reducible repeat (first | refine blk_drewN ?_ _ | refine blk_drew ?_ | refine blk_alloc ?_ _)); exact BK207.out) Try.underlying33 rfl (by kernel_rfl)) rfl ?_
        exact ⟨_, _, _, _, _, by first | rfl | (simp [errW_none, errW_some] <;> rfl) | (simp [*, errW_none, errW_some] <;> rfl), by (with_reducible repeat (first | apply Kd.S_alloc | apply Kd.S_drewN | apply Kd.S_drew)); exact Kd.S_mono (Kd.S_far (p := ⟨gb207, 5, none⟩) (Kd.S_far (p := ⟨gb207, 4, none⟩) (Kd.S_far (p := ⟨gb207, 3, none⟩) (Kd.S_far (p := ⟨gb207, 2, none⟩) (Kd.S_far (p := ⟨gb207, 1, none⟩) (Kd.S_far (p := ⟨gb207, 0, none⟩) (Kd.S_types HO_233001.out BK207.out (by decide)) (fun _ hk => hk.2) (.int .i64 a0_0)) (fun _ hk => hk.2) (.slice Ao58 x233001_1.length co58)) (fun _ hk => hk.2) (.slice Ao36 y211.length co36)) (fun _ hk => hk.2) (.slice Ao35 y217.length co35)) (fun _ hk => hk.2) (.slice Ao34 y223.length co34)) (fun _ hk => hk.2) (.slice Ao33 y229.length co33)) (fun _ hk => ⟨hk.1.1, ⟨hk.1.2.1, ⟨hk.1.2.2.1, hk.1.2.2.2⟩⟩⟩), by (with_reducible repeat (first | apply Kd.R_alloc | apply Kd.R_drewN | apply Kd.R_drew)); exact Kd.R_mono (Kd.R_far (p := ⟨gb207, 5, none⟩) (Kd.R_far (p := ⟨gb207, 4, none⟩) (Kd.R_far (p := ⟨gb207, 3, none⟩) (Kd.R_far (p := ⟨gb207, 2, none⟩) (Kd.R_far (p := ⟨gb207, 1, none⟩) (Kd.R_far (p := ⟨gb207, 0, none⟩) (Kd.R_types HO_233002.out BK207.out (by decide)) (fun _ hk => hk.2) (.int .i64 a0_0)) (fun _ hk => hk.2) (.slice Ao58 x233001_1.length co58)) (fun _ hk => hk.2) (.slice Ao36 y211.length co36)) (fun _ hk => hk.2) (.slice Ao35 y217.length co35)) (fun _ hk => hk.2) (.slice Ao34 y223.length co34)) (fun _ hk => hk.2) (.slice Ao33 y229.length co33)) (fun _ hk => ⟨hk.1.1, ⟨hk.1.2.1, hk.1.2.2⟩⟩), by (with_reducible repeat (first | apply Kd.R_alloc | apply Kd.R_drewN | apply Kd.R_drew)); exact Kd.R_mono (Kd.R_far (p := ⟨gb207, 5, none⟩) (Kd.R_far (p := ⟨gb207, 4, none⟩) (Kd.R_far (p := ⟨gb207, 3, none⟩) (Kd.R_far (p := ⟨gb207, 2, none⟩) (Kd.R_far (p := ⟨gb207, 1, none⟩) (Kd.R_far (p := ⟨gb207, 0, none⟩) (Kd.R_types HO_233003.out BK207.out (by decide)) (fun _ hk => hk.2) (.int .i64 a0_0)) (fun _ hk => hk.2) (.slice Ao58 x233001_1.length co58)) (fun _ hk => hk.2) (.slice Ao36 y211.length co36)) (fun _ hk => hk.2) (.slice Ao35 y217.length co35)) (fun _ hk => hk.2) (.slice Ao34 y223.length co34)) (fun _ hk => hk.2) (.slice Ao33 y229.length co33)) (fun _ hk => ⟨hk.1.1, ⟨hk.1.2.1, hk.1.2.2⟩⟩), by (with_reducible repeat (first | apply Kd.R_alloc | apply Kd.R_drewN | apply Kd.R_drew)); exact Kd.R_mono (Kd.R_far (p := ⟨gb207, 5, none⟩) (Kd.R_far (p := ⟨gb207, 4, none⟩) (Kd.R_far (p := ⟨gb207, 3, none⟩) (Kd.R_far (p := ⟨gb207, 2, none⟩) (Kd.R_far (p := ⟨gb207, 1, none⟩) (Kd.R_far (p := ⟨gb207, 0, none⟩) (Kd.R_types HO_233004.out BK207.out (by decide)) (fun _ hk => hk.2) (.int .i64 a0_0)) (fun _ hk => hk.2) (.slice Ao58 x233001_1.length co58)) (fun _ hk => hk.2) (.slice Ao36 y211.length co36)) (fun _ hk => hk.2) (.slice Ao35 y217.length co35)) (fun _ hk => hk.2) (.slice Ao34 y223.length co34)) (fun _ hk => hk.2) (.slice Ao33 y229.length co33)) (fun _ hk => ⟨hk.1.1, ⟨hk.1.2.1, hk.1.2.2⟩⟩), by (with_reducible repeat (first | apply Kd.R_alloc | apply Kd.R_drewN | apply Kd.R_drew)); exact Kd.R_mono (Kd.R_far (p := ⟨gb207, 5, none⟩) (Kd.R_far (p := ⟨gb207, 4, none⟩) (Kd.R_far (p := ⟨gb207, 3, none⟩) (Kd.R_far (p := ⟨gb207, 2, none⟩) (Kd.R_far (p := ⟨gb207, 1, none⟩) (Kd.R_far (p := ⟨gb207, 0, none⟩) (Kd.R_types HO_233005.out BK207.out (by decide)) (fun _ hk => hk.2) (.int .i64 a0_0)) (fun _ hk => hk.2) (.slice Ao58 x233001_1.length co58)) (fun _ hk => hk.2) (.slice Ao36 y211.length co36)) (fun _ hk => hk.2) (.slice Ao35 y217.length co35)) (fun _ hk => hk.2) (.slice Ao34 y223.length co34)) (fun _ hk => hk.2) (.slice Ao33 y229.length co33)) (fun _ hk => ⟨hk.1.1, ⟨hk.1.2.1, hk.1.2.2⟩⟩), by repeat (first | (with_reducible first | exact HB.out | apply below_alloc | apply pw_below_drewN | apply below_drew1 | refine below_set ?_ GE206.out | refine below_set ?_ GE207.out | refine below_set ?_ GE232.out) | exact HB.out)⟩
    ·rw [if_neg c5] at H
     exact absurd H (by simp)
   ·rw [if_neg c4] at H
    exact absurd H (by simp)
  ·rw [if_neg c3] at H
   exact absurd H (by simp)
 ·rw [if_neg c2] at H
  exact absurd H (by simp)
end Go.Proofs.Ytjbjofmcmjojlaa.Wk
end
