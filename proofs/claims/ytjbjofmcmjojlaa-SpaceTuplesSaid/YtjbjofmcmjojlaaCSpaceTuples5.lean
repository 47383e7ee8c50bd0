-- Texts that the row SpaceTuples leans on, joined by wip/tools/mkclaim.py: Wkslabvaultlaw12_own, Wkslabvaultlaw12_SpaceTuples, Wk20, Plain12, Plain12b, Plain12c, Plain12d
import Derived.Test.YtjbjofmcmjojlaaCSpaceTuples4
section
namespace Go.Proofs.Ytjbjofmcmjojlaa.Wk
open Go.RowKit Go.Proofs.YtjbjofmcmjojlaaW.PrintWords Go.Proofs.YtjbjofmcmjojlaaW.PrintLast Go.Proofs.YtjbjofmcmjojlaaW.PrintMore
attribute [local go_sem] max2_int min2_int max_two min_two max_three min_three max_four min_four
set_option linter.unusedVariables false
set_option linter.unusedSimpArgs false
def slabvaultlaw12_own.l0 : Nat → Int → Int → List (List Int) → List Int → List Int → List Int → List Int → Int → List (List Int) → List Int → List Int → List Int → List Int → Option (Int × (List (List Int)) × List Int × List Int × List Int × List Int)
 | 0, _, _, _, _, _, _, _, _, _, _, _, _, _ => none
 | k + 1, x4, x207000, x207001, x207002, x207003, x207004, x207005, x233000, x233001, x233002, x233003, x233004, x233005 => if x4 < (x207001.length : Int) then ((some (([] : List Int) : List Int)).bind fun y233 => (if 0 ≤ x4 then (if y233.length + (rd_L1 x207001 x4).length < 17592186044416 then (if x233001.length < 5864062014805 then (slabvaultlaw12_own.l0 k (wrap64 (x4 + 1)) x207000 x207001 x207002 x207003 x207004 x207005 x233000 (x233001 ++ [(y233 ++ (rd_L1 x207001 x4))]) x233002 x233003 x233004 x233005) else (none)) else (none)) else (none))) else (some (x233000, x233001, x233002, x233003, x233004, x233005))
def slabvaultlaw12_own.f (k : Nat) (a0_0 : Int) (l0_1 : List (List Int)) (l0_2 : List Int) (l0_3 : List Int) (l0_4 : List Int) (l0_5 : List Int) : Option (Int × (List (List Int)) × List Int × List Int × List Int × List Int) := (some (([] : List Int) : List Int)).bind fun y208 => (if y208.length + l0_2.length < 17592186044416 then ((some (([] : List Int) : List Int)).bind fun y214 => (if y214.length + l0_3.length < 17592186044416 then ((some (([] : List Int) : List Int)).bind fun y220 => (if y220.length + l0_4.length < 17592186044416 then ((some (([] : List Int) : List Int)).bind fun y226 => (if y226.length + l0_5.length < 17592186044416 then (slabvaultlaw12_own.l0 k 0 a0_0 l0_1 l0_2 l0_3 l0_4 l0_5 a0_0 ([] : List (List Int)) (y208 ++ l0_2) (y214 ++ l0_3) (y220 ++ l0_4) (y226 ++ l0_5)) else (none))) else (none))) else (none))) else (none))
def slabvaultlaw12_own.T1 : Bool × List (List Nat × List Nat) := (true, [([], []), ([0], [0]), ([], []), ([], []), ([3], [3]), ([2, 4], [2, 4]), ([], []), ([], []), ([7], [7]), ([6, 8, 5], [6, 8]), ([], []), ([], []), ([11], [11]), ([10, 12, 9], [10, 12]), ([], []), ([], []), ([15], [15]), ([14, 16, 13], [14, 16]), ([1, 5, 9, 13, 17], [1, 5, 9, 13, 17]), ([], []), ([19, 18, 17, 0, 1, 2, 3, 4, 5, 6, 7, 8, 9, 10, 11, 12, 13, 14, 15, 16, 17, 18, 19], [18, 19])])
def slabvaultlaw12_own.B1 : List Nat := [0, 1, 0, 0, 8, 28, 0, 0, 128, 508, 0, 0, 2048, 8188, 0, 0, 32768, 131068, 262143, 0, 1048575]
theorem slabvaultlaw12_own.tab1 : rtab .any (opsOf Try.f21 1) = slabvaultlaw12_own.T1 := by kernel_rfl
theorem slabvaultlaw12_own.bits1 : waitsOk slabvaultlaw12_own.T1.2 slabvaultlaw12_own.B1 = true := by kernel_rfl
def slabvaultlaw12_own.T5 : Bool × List (List Nat × List Nat) := (true, [([], []), ([0], [0]), ([], []), ([], []), ([3], [3]), ([], []), ([4, 5], [4, 5]), ([6], [6]), ([2, 7], [2, 7]), ([8], [8]), ([1, 9, 8], [1, 9]), ([0, 1, 2, 3, 4, 5, 6, 7, 8, 9, 10], []), ([11, 10, 10, 0, 1, 2, 3, 4, 5, 6, 7, 8, 9, 10], [10, 11])])
def slabvaultlaw12_own.B5 : List Nat := [0, 1, 0, 0, 8, 0, 56, 120, 252, 508, 1023, 2047, 4095]
theorem slabvaultlaw12_own.tab5 : rtab .any (opsOf Try.f21 5) = slabvaultlaw12_own.T5 := by kernel_rfl
theorem slabvaultlaw12_own.bits5 : waitsOk slabvaultlaw12_own.T5.2 slabvaultlaw12_own.B5 = true := by kernel_rfl
theorem R_as {e : Nat} {w : World} {base : Nat} {ok : Nat → Prop} {v : Value} {xs : List Int} (h : (Kd.int .i64).R e w base (fun _ => True) v xs) (hok : ∀ k, v.ownBlock = some k → ok k) : (Kd.int .i64).R e w base ok v xs := Kd.R_mono (Kd.R_tight rfl h) (fun k hk => hok k hk.symm)
set_option maxHeartbeats 8000000 in
set_option maxRecDepth 100000 in
theorem slabvaultlaw12_own.calls (k : Nat) (a0_0 : Int) (A0_1 : Option Addr) (c0_1 : Nat) (l0_1 : List (List Int)) (A0_2 : Option Addr) (c0_2 : Nat) (l0_2 : List Int) (A0_3 : Option Addr) (c0_3 : Nat) (l0_3 : List Int) (A0_4 : Option Addr) (c0_4 : Nat) (l0_4 : List Int) (A0_5 : Option Addr) (c0_5 : Nat) (l0_5 : List Int) (r1 : Int) (r2 : List (List Int)) (r3 : List Int) (r4 : List Int) (r5 : List Int) (r6 : List Int) (w : World) (hr0_1 : Kd.C (Kd.slice 3 (Kd.int .i64)) w A0_1 l0_1.length l0_1) (hc0_1 : l0_1.length ≤ c0_1) (hr0_2 : Kd.C (Kd.int .i64) w A0_2 l0_2.length l0_2) (hc0_2 : l0_2.length ≤ c0_2) (hr0_3 : Kd.C (Kd.int .i64) w A0_3 l0_3.length l0_3) (hc0_3 : l0_3.length ≤ c0_3) (hr0_4 : Kd.C (Kd.int .i64) w A0_4 l0_4.length l0_4) (hc0_4 : l0_4.length ≤ c0_4) (hr0_5 : Kd.C (Kd.int .i64) w A0_5 l0_5.length l0_5) (hc0_5 : l0_5.length ≤ c0_5) (h : slabvaultlaw12_own.f k a0_0 l0_1 l0_2 l0_3 l0_4 l0_5 = some (r1, r2, r3, r4, r5, r6)) :
 Calls Try.prog 21 #[.agg #[.int .i64 a0_0, .slice A0_1 l0_1.length c0_1, .slice A0_2 l0_2.length c0_2, .slice A0_3 l0_3.length c0_3, .slice A0_4 l0_4.length c0_4, .slice A0_5 l0_5.length c0_5]] w fun e w' => ∃ v1_ v2_ v3_ v4_ v5_ : Value, e = .returned (.agg #[.int .i64 r1, v1_, v2_, v3_, v4_, v5_]) ∧ Kd.S (Kd.slice 3 (Kd.int .i64)) 22 w' w.heap.size (fun k_ => some k_ ≠ (v2_ : Value).ownBlock ∧ some k_ ≠ (v3_ : Value).ownBlock ∧ some k_ ≠ (v4_ : Value).ownBlock ∧ some k_ ≠ (v5_ : Value).ownBlock) v1_ r2 ∧ Kd.R (Kd.int .i64) 3 w' w.heap.size (fun k_ => some k_ ≠ (v3_ : Value).ownBlock ∧ some k_ ≠ (v4_ : Value).ownBlock ∧ some k_ ≠ (v5_ : Value).ownBlock) v2_ r3 ∧ Kd.R (Kd.int .i64) 3 w' w.heap.size (fun k_ => some k_ ≠ (v2_ : Value).ownBlock ∧ some k_ ≠ (v4_ : Value).ownBlock ∧ some k_ ≠ (v5_ : Value).ownBlock) v3_ r4 ∧ Kd.R (Kd.int .i64) 3 w' w.heap.size (fun k_ => some k_ ≠ (v2_ : Value).ownBlock ∧ some k_ ≠ (v3_ : Value).ownBlock ∧ some k_ ≠ (v5_ : Value).ownBlock) v4_ r5 ∧ Kd.R (Kd.int .i64) 3 w' w.heap.size (fun k_ => some k_ ≠ (v2_ : Value).ownBlock ∧ some k_ ≠ (v3_ : Value).ownBlock ∧ some k_ ≠ (v4_ : Value).ownBlock) v5_ r6 ∧ Below w.heap.size w w' := by
 have hu33 := Try.underlying33
 have HR0_1 := Aside0.mk hr0_1
 have HC0_1 := Aside0.mk hc0_1
 clear hr0_1 hc0_1
 have HR0_2 := Aside0.mk hr0_2
 have HC0_2 := Aside0.mk hc0_2
 clear hr0_2 hc0_2
 have HR0_3 := Aside0.mk hr0_3
 have HC0_3 := Aside0.mk hc0_3
 clear hr0_3 hc0_3
 have HR0_4 := Aside0.mk hr0_4
 have HC0_4 := Aside0.mk hc0_4
 clear hr0_4 hc0_4
 have HR0_5 := Aside0.mk hr0_5
 have HC0_5 := Aside0.mk hc0_5
 clear hr0_5 hc0_5
 have HB := Aside0.mk (Below.refl w.heap.size w)
 have H : ((some (([] : List Int) : List Int)).bind fun y208 => (if y208.length + l0_2.length < 17592186044416 then ((some (([] : List Int) : List Int)).bind fun y214 => (if y214.length + l0_3.length < 17592186044416 then ((some (([] : List Int) : List Int)).bind fun y220 => (if y220.length + l0_4.length < 17592186044416 then ((some (([] : List Int) : List Int)).bind fun y226 => (if y226.length + l0_5.length < 17592186044416 then (slabvaultlaw12_own.l0 k 0 a0_0 l0_1 l0_2 l0_3 l0_4 l0_5 a0_0 ([] : List (List Int)) (y208 ++ l0_2) (y214 ++ l0_3) (y220 ++ l0_4) (y226 ++ l0_5)) else (none))) else (none))) else (none))) else (none))) = some (r1, r2, r3, r4, r5, r6) := h
 clear h
 obtain ⟨y208, hy208⟩ : ∃ y_ : List Int, y_ = (([] : List Int)) := ⟨_, rfl⟩
 replace H : (if y208.length + l0_2.length < 17592186044416 then ((some (([] : List Int) : List Int)).bind fun y214 => (if y214.length + l0_3.length < 17592186044416 then ((some (([] : List Int) : List Int)).bind fun y220 => (if y220.length + l0_4.length < 17592186044416 then ((some (([] : List Int) : List Int)).bind fun y226 => (if y226.length + l0_5.length < 17592186044416 then (slabvaultlaw12_own.l0 k 0 a0_0 l0_1 l0_2 l0_3 l0_4 l0_5 a0_0 ([] : List (List Int)) (y208 ++ l0_2) (y214 ++ l0_3) (y220 ++ l0_4) (y226 ++ l0_5)) else (none))) else (none))) else (none))) else (none)) = some (r1, r2, r3, r4, r5, r6) := by (have H2_ := (Option.bind_some _ _).symm.trans H; rw [hy208]; with_reducible exact H2_)
 have Ny208 := Aside0.mk hy208
 clear hy208
 by_cases c2 : y208.length + l0_2.length < 17592186044416
 ·rw [if_pos c2] at H
  have LMc2 := Aside0.mk c2
  clear c2
  obtain ⟨y211, hy211⟩ : ∃ y_ : List Int, y_ = (y208 ++ l0_2) := ⟨_, rfl⟩
  replace H : ((some (([] : List Int) : List Int)).bind fun y214 => (if y214.length + l0_3.length < 17592186044416 then ((some (([] : List Int) : List Int)).bind fun y220 => (if y220.length + l0_4.length < 17592186044416 then ((some (([] : List Int) : List Int)).bind fun y226 => (if y226.length + l0_5.length < 17592186044416 then (slabvaultlaw12_own.l0 k 0 a0_0 l0_1 l0_2 l0_3 l0_4 l0_5 a0_0 ([] : List (List Int)) y211 (y214 ++ l0_3) (y220 ++ l0_4) (y226 ++ l0_5)) else (none))) else (none))) else (none))) = some (r1, r2, r3, r4, r5, r6) := by (rw [hy211]; with_reducible exact H)
  have Ny211 := Aside0.mk hy211
  clear hy211
  obtain ⟨y214, hy214⟩ : ∃ y_ : List Int, y_ = (([] : List Int)) := ⟨_, rfl⟩
  replace H : (if y214.length + l0_3.length < 17592186044416 then ((some (([] : List Int) : List Int)).bind fun y220 => (if y220.length + l0_4.length < 17592186044416 then ((some (([] : List Int) : List Int)).bind fun y226 => (if y226.length + l0_5.length < 17592186044416 then (slabvaultlaw12_own.l0 k 0 a0_0 l0_1 l0_2 l0_3 l0_4 l0_5 a0_0 ([] : List (List Int)) y211 (y214 ++ l0_3) (y220 ++ l0_4) (y226 ++ l0_5)) else (none))) else (none))) else (none)) = some (r1, r2, r3, r4, r5, r6) := by (have H2_ := (Option.bind_some _ _).symm.trans H; rw [hy214]; with_reducible exact H2_)
  have Ny214 := Aside0.mk hy214
  clear hy214
  by_cases c3 : y214.length + l0_3.length < 17592186044416
  case neg => rw [if_neg c3] at H; exact absurd H (by simp)
  rw [if_pos c3] at H
  have LMc3 := Aside0.mk c3
  clear c3
  obtain ⟨y217, hy217⟩ : ∃ y_ : List Int, y_ = (y214 ++ l0_3) := ⟨_, rfl⟩
  replace H : ((some (([] : List Int) : List Int)).bind fun y220 => (if y220.length + l0_4.length < 17592186044416 then ((some (([] : List Int) : List Int)).bind fun y226 => (if y226.length + l0_5.length < 17592186044416 then (slabvaultlaw12_own.l0 k 0 a0_0 l0_1 l0_2 l0_3 l0_4 l0_5 a0_0 ([] : List (List Int)) y211 y217 (y220 ++ l0_4) (y226 ++ l0_5)) else (none))) else (none))) = some (r1, r2, r3, r4, r5, r6) := by (rw [hy217]; with_reducible exact H)
  have Ny217 := Aside0.mk hy217
  clear hy217
  obtain ⟨y220, hy220⟩ : ∃ y_ : List Int, y_ = (([] : List Int)) := ⟨_, rfl⟩
  replace H : (if y220.length + l0_4.length < 17592186044416 then ((some (([] : List Int) : List Int)).bind fun y226 => (if y226.length + l0_5.length < 17592186044416 then (slabvaultlaw12_own.l0 k 0 a0_0 l0_1 l0_2 l0_3 l0_4 l0_5 a0_0 ([] : List (List Int)) y211 y217 (y220 ++ l0_4) (y226 ++ l0_5)) else (none))) else (none)) = some (r1, r2, r3, r4, r5, r6) := by (have H2_ := (Option.bind_some _ _).symm.trans H; rw [hy220]; with_reducible exact H2_)
  have Ny220 := Aside0.mk hy220
  clear hy220
  by_cases c4 : y220.length + l0_4.length < 17592186044416
  case neg => rw [if_neg c4] at H; exact absurd H (by simp)
  rw [if_pos c4] at H
  have LMc4 := Aside0.mk c4
  clear c4
  obtain ⟨y223, hy223⟩ : ∃ y_ : List Int, y_ = (y220 ++ l0_4) := ⟨_, rfl⟩
  replace H : ((some (([] : List Int) : List Int)).bind fun y226 => (if y226.length + l0_5.length < 17592186044416 then (slabvaultlaw12_own.l0 k 0 a0_0 l0_1 l0_2 l0_3 l0_4 l0_5 a0_0 ([] : List (List Int)) y211 y217 y223 (y226 ++ l0_5)) else (none))) = some (r1, r2, r3, r4, r5, r6) := by (rw [hy223]; with_reducible exact H)
  have Ny223 := Aside0.mk hy223
  clear hy223
  obtain ⟨y226, hy226⟩ : ∃ y_ : List Int, y_ = (([] : List Int)) := ⟨_, rfl⟩
  replace H : (if y226.length + l0_5.length < 17592186044416 then (slabvaultlaw12_own.l0 k 0 a0_0 l0_1 l0_2 l0_3 l0_4 l0_5 a0_0 ([] : List (List Int)) y211 y217 y223 (y226 ++ l0_5)) else (none)) = some (r1, r2, r3, r4, r5, r6) := by (have H2_ := (Option.bind_some _ _).symm.trans H; rw [hy226]; with_reducible exact H2_)
  have Ny226 := Aside0.mk hy226
  clear hy226
  by_cases c5 : y226.length + l0_5.length < 17592186044416
  case neg => rw [if_neg c5] at H; exact absurd H (by simp)
  rw [if_pos c5] at H
  have LMc5 := Aside0.mk c5
  clear c5
  obtain ⟨y229, hy229⟩ : ∃ y_ : List Int, y_ = (y226 ++ l0_5) := ⟨_, rfl⟩
  replace H : (slabvaultlaw12_own.l0 k 0 a0_0 l0_1 l0_2 l0_3 l0_4 l0_5 a0_0 ([] : List (List Int)) y211 y217 y223 y229) = some (r1, r2, r3, r4, r5, r6) := by (rw [hy229]; with_reducible exact H)
  have Ny229 := Aside0.mk hy229
  clear hy229
  have H' := Aside0.mk H
  clear H
  go_enter Try.func21, Try.ntmps21
  go_wp2_with (first | ((with_reducible refine gate_dst (N := 1) rfl ?_); refine box_event ?hg (N := 1) ?hd (cs := #[.int .i64 a0_0, .slice A0_1 l0_1.length c0_1, .slice A0_2 l0_2.length c0_2, .slice A0_3 l0_3.length c0_3, .slice A0_4 l0_4.length c0_4, .slice A0_5 l0_5.length c0_5]) (t := 33) ?hr ?_; (case hd => rfl); (case hg => rfl); (case hr => (go_simp; done)); intro gb206 hg w6 hbox hb; have n0_ := Aside0.mk (below_step (HB.out) hb); have n1_ := Aside0.mk (hbox); have n2_ := Aside0.mk ((by rw [hg]; exact (below_size (HB.out)) : w.heap.size ≤ gb206)); have n3_ := Aside0.mk ((by rw [hg]; exact (below_size (HB.out)) : w.heap.size ≤ gb206)); clear HB; have HB := n0_; have BK206 := n1_; have GW206 := n2_; have GE206 := n3_; clear n0_ n1_ n2_ n3_; clear hb hbox hg) | ((with_reducible refine gate_dst (N := 2) rfl ?_); refine box_event ?hg (N := 2) ?hd (cs := #[.int .i64 0, .slice none 0 0, .slice none 0 0, .slice none 0 0, .slice none 0 0, .slice none 0 0]) (t := 33) ?hr ?_; (case hd => rfl); (case hg => rfl); (case hr => (go_simp; done)); intro gb207 hg w7 hbox hb; have n0_ := Aside0.mk (blk_below (g := gb206) (o := .cells #[.int .i64 a0_0, .slice A0_1 l0_1.length c0_1, .slice A0_2 l0_2.length c0_2, .slice A0_3 l0_3.length c0_3, .slice A0_4 l0_4.length c0_4, .slice A0_5 l0_5.length c0_5] 33 (0, 0)) (by exact BK206.out) hb); have n1_ := Aside0.mk (below_step (HB.out) hb); have n2_ := Aside0.mk (hbox); have n3_ := Aside0.mk ((by rw [hg]; exact (below_size (HB.out)) : w.heap.size ≤ gb207)); have n4_ := Aside0.mk ((by rw [hg]; exact (below_size (HB.out)) : w.heap.size ≤ gb207)); have n5_ := Aside0.mk ((by rw [hg]; exact Nat.ne_of_lt (blk_lt (g := gb206) (o := .cells #[.int .i64 a0_0, .slice A0_1 l0_1.length c0_1, .slice A0_2 l0_2.length c0_2, .slice A0_3 l0_3.length c0_3, .slice A0_4 l0_4.length c0_4, .slice A0_5 l0_5.length c0_5] 33 (0, 0)) (by exact BK206.out)) : gb206 ≠ gb207)); have n6_ := Aside0.mk ((by rw [hg]; exact Nat.ne_of_gt (blk_lt (g := gb206) (o := .cells #[.int .i64 a0_0, .slice A0_1 l0_1.length c0_1, .slice A0_2 l0_2.length c0_2, .slice A0_3 l0_3.length c0_3, .slice A0_4 l0_4.length c0_4, .slice A0_5 l0_5.length c0_5] 33 (0, 0)) (by exact BK206.out)) : gb207 ≠ gb206)); clear BK206; clear HB; have BK206 := n0_; have HB := n1_; have BK207 := n2_; have GW207 := n3_; have GE207 := n4_; have NB206_207 := n5_; have NB207_206 := n6_; clear n0_ n1_ n2_ n3_ n4_ n5_ n6_; clear hb hbox hg))
  have n0_ := Aside0.mk (blk_drew BK206.out)
  have n1_ := Aside0.mk (blk_drew BK207.out)
  have n2_ := Aside0.mk (below_drew1 HB.out)
  clear BK206 BK207 HB
  have BK206 := n0_
  have BK207 := n1_
  have HB := n2_
  clear n0_ n1_ n2_
  refine start_ (n := 21) (S := fun w' => True) (ds := []) #[false, false, false, false, false, false, false, false, false, false, false, false, false, false, false, false, false, false, false, false, false] (by kernel_rfl) rfl rfl trivial (fun hHeld => ?_); refine with_tabW slabvaultlaw12_own.tab1 slabvaultlaw12_own.bits1 (fun HT_ HW_ => ?_)
  generalize w7.drew = w8 at BK206 BK207 HB hHeld ⊢
  refine pure_ (i := 0) (N := some 5) (v := ?_) (a' := ?_) #[true, false, false, false, false, false, false, false, false, false, false, false, false, false, false, false, false, false, false, false, false] rfl rfl (any_of HT_.out (by kernel_rfl)) (fun _ _ _ h => h) (Or.inl ⟨by rfl, ?_⟩) ?_ ?_
  rotate_left
  ·intro w'
   go_simp
   with_reducible rfl
  rotate_left
  ·simp only [Act.put, List.setIfInBounds_toArray, List.set_cons_zero, List.set_cons_succ, i64_w, i32_w]
   rfl
  refine pure_ (i := 3) (N := some 8) (v := ?_) (a' := ?_) #[true, false, false, true, false, false, false, false, false, false, false, false, false, false, false, false, false, false, false, false, false] rfl rfl (any_of HT_.out (by kernel_rfl)) (fun _ _ _ h => h) (Or.inl ⟨by rfl, ?_⟩) ?_ ?_
  rotate_left
  ·intro w'
   go_simp
   with_reducible rfl
  rotate_left
  ·simp only [Act.put, List.setIfInBounds_toArray, List.set_cons_zero, List.set_cons_succ, i64_w, i32_w]
   rfl
  refine pure_ (i := 7) (N := some 12) (v := ?_) (a' := ?_) #[true, false, false, true, false, false, false, true, false, false, false, false, false, false, false, false, false, false, false, false, false] rfl rfl (any_of HT_.out (by kernel_rfl)) (fun _ _ _ h => h) (Or.inl ⟨by rfl, ?_⟩) ?_ ?_
  rotate_left
  ·intro w'
   go_simp
   with_reducible rfl
  rotate_left
  ·simp only [Act.put, List.setIfInBounds_toArray, List.set_cons_zero, List.set_cons_succ, i64_w, i32_w]
   rfl
  refine pure_ (i := 11) (N := some 16) (v := ?_) (a' := ?_) #[true, false, false, true, false, false, false, true, false, false, false, true, false, false, false, false, false, false, false, false, false] rfl rfl (any_of HT_.out (by kernel_rfl)) (fun _ _ _ h => h) (Or.inl ⟨by rfl, ?_⟩) ?_ ?_
  rotate_left
  ·intro w'
   go_simp
   with_reducible rfl
  rotate_left
  ·simp only [Act.put, List.setIfInBounds_toArray, List.set_cons_zero, List.set_cons_succ, i64_w, i32_w]
   rfl
  refine pure_ (i := 15) (N := some 20) (v := ?_) (a' := ?_) #[true, false, false, true, false, false, false, true, false, false, false, true, false, false, false, true, false, false, false, false, false] rfl rfl (any_of HT_.out (by kernel_rfl)) (fun _ _ _ h => h) (Or.inl ⟨by rfl, ?_⟩) ?_ ?_
  rotate_left
  ·intro w'
   go_simp
   with_reducible rfl
  rotate_left
  ·simp only [Act.put, List.setIfInBounds_toArray, List.set_cons_zero, List.set_cons_succ, i64_w, i32_w]
   rfl
  refine inv_at [1, 2, 4, 5, 6, 8, 9, 10, 12, 13, 14, 16, 17, 18, 19, 20] (fun a0_ b a w' => ∃ (v209 : Value) (v212 : Value) (v215 : Value) (v218 : Value) (v221 : Value) (v224 : Value) (v227 : Value) (v230 : Value) (gb232 : Nat) (m18_ : Value) (m19_ : Value), a = putSel a0_ b [(1, 6, .int .i64 a0_0), (2, 7, v209), (4, 9, .slice A0_2 l0_2.length c0_2), (5, 10, v212), (6, 11, v215), (8, 13, .slice A0_3 l0_3.length c0_3), (9, 14, v218), (10, 15, v221), (12, 17, .slice A0_4 l0_4.length c0_4), (13, 18, v224), (14, 19, v227), (16, 21, .slice A0_5 l0_5.length c0_5), (17, 22, v230), (18, 23, m18_), (19, 3, m19_)] ∧ (w'.heap[gb206]? = some (.cells #[.int .i64 a0_0, .slice A0_1 l0_1.length c0_1, .slice A0_2 l0_2.length c0_2, .slice A0_3 l0_3.length c0_3, .slice A0_4 l0_4.length c0_4, .slice A0_5 l0_5.length c0_5] 33 (0, 0))) ∧ (w'.heap[gb207]? = some (.cells #[.int .i64 0, .slice none 0 0, .slice none 0 0, .slice none 0 0, .slice none 0 0, .slice none 0 0] 33 (0, 0))) ∧ (Below w.heap.size w w') ∧ (b 2 = true → b 5 = false → Kd.R (Kd.int .i64) 3 w' w.heap.size (fun k_ => ((b) 6 = true → (b) 9 = false → some k_ ≠ (v215 : Value).ownBlock) ∧ ((b) 9 = true → some k_ ≠ (v218 : Value).ownBlock) ∧ ((b) 10 = true → (b) 13 = false → some k_ ≠ (v221 : Value).ownBlock) ∧ ((b) 13 = true → some k_ ≠ (v224 : Value).ownBlock) ∧ ((b) 14 = true → (b) 17 = false → some k_ ≠ (v227 : Value).ownBlock) ∧ ((b) 17 = true → some k_ ≠ (v230 : Value).ownBlock)) v209 y208) ∧ (b 5 = true → Kd.R (Kd.int .i64) 3 w' w.heap.size (fun k_ => ((b) 6 = true → (b) 9 = false → some k_ ≠ (v215 : Value).ownBlock) ∧ ((b) 9 = true → some k_ ≠ (v218 : Value).ownBlock) ∧ ((b) 10 = true → (b) 13 = false → some k_ ≠ (v221 : Value).ownBlock) ∧ ((b) 13 = true → some k_ ≠ (v224 : Value).ownBlock) ∧ ((b) 14 = true → (b) 17 = false → some k_ ≠ (v227 : Value).ownBlock) ∧ ((b) 17 = true → some k_ ≠ (v230 : Value).ownBlock)) v212 y211) ∧ (b 6 = true → b 9 = false → Kd.R (Kd.int .i64) 3 w' w.heap.size (fun k_ => ((b) 2 = true → (b) 5 = false → some k_ ≠ (v209 : Value).ownBlock) ∧ ((b) 5 = true → some k_ ≠ (v212 : Value).ownBlock) ∧ ((b) 10 = true → (b) 13 = false → some k_ ≠ (v221 : Value).ownBlock) ∧ ((b) 13 = true → some k_ ≠ (v224 : Value).ownBlock) ∧ ((b) 14 = true → (b) 17 = false → some k_ ≠ (v227 : Value).ownBlock) ∧ ((b) 17 = true → some k_ ≠ (v230 : Value).ownBlock)) v215 y214) ∧ (b 9 = true → Kd.R (Kd.int .i64) 3 w' w.heap.size (fun k_ => ((b) 2 = true → (b) 5 = false → some k_ ≠ (v209 : Value).ownBlock) ∧ ((b) 5 = true → some k_ ≠ (v212 : Value).ownBlock) ∧ ((b) 10 = true → (b) 13 = false → some k_ ≠ (v221 : Value).ownBlock) ∧ ((b) 13 = true → some k_ ≠ (v224 : Value).ownBlock) ∧ ((b) 14 = true → (b) 17 = false → some k_ ≠ (v227 : Value).ownBlock) ∧ ((b) 17 = true → some k_ ≠ (v230 : Value).ownBlock)) v218 y217) ∧ (b 10 = true → b 13 = false → Kd.R (Kd.int .i64) 3 w' w.heap.size (fun k_ => ((b) 2 = true → (b) 5 = false → some k_ ≠ (v209 : Value).ownBlock) ∧ ((b) 5 = true → some k_ ≠ (v212 : Value).ownBlock) ∧ ((b) 6 = true → (b) 9 = false → some k_ ≠ (v215 : Value).ownBlock) ∧ ((b) 9 = true → some k_ ≠ (v218 : Value).ownBlock) ∧ ((b) 14 = true → (b) 17 = false → some k_ ≠ (v227 : Value).ownBlock) ∧ ((b) 17 = true → some k_ ≠ (v230 : Value).ownBlock)) v221 y220) ∧ (b 13 = true → Kd.R (Kd.int .i64) 3 w' w.heap.size (fun k_ => ((b) 2 = true → (b) 5 = false → some k_ ≠ (v209 : Value).ownBlock) ∧ ((b) 5 = true → some k_ ≠ (v212 : Value).ownBlock) ∧ ((b) 6 = true → (b) 9 = false → some k_ ≠ (v215 : Value).ownBlock) ∧ ((b) 9 = true → some k_ ≠ (v218 : Value).ownBlock) ∧ ((b) 14 = true → (b) 17 = false → some k_ ≠ (v227 : Value).ownBlock) ∧ ((b) 17 = true → some k_ ≠ (v230 : Value).ownBlock)) v224 y223) ∧ (b 14 = true → b 17 = false → Kd.R (Kd.int .i64) 3 w' w.heap.size (fun k_ => ((b) 2 = true → (b) 5 = false → some k_ ≠ (v209 : Value).ownBlock) ∧ ((b) 5 = true → some k_ ≠ (v212 : Value).ownBlock) ∧ ((b) 6 = true → (b) 9 = false → some k_ ≠ (v215 : Value).ownBlock) ∧ ((b) 9 = true → some k_ ≠ (v218 : Value).ownBlock) ∧ ((b) 10 = true → (b) 13 = false → some k_ ≠ (v221 : Value).ownBlock) ∧ ((b) 13 = true → some k_ ≠ (v224 : Value).ownBlock)) v227 y226) ∧ (b 17 = true → Kd.R (Kd.int .i64) 3 w' w.heap.size (fun k_ => ((b) 2 = true → (b) 5 = false → some k_ ≠ (v209 : Value).ownBlock) ∧ ((b) 5 = true → some k_ ≠ (v212 : Value).ownBlock) ∧ ((b) 6 = true → (b) 9 = false → some k_ ≠ (v215 : Value).ownBlock) ∧ ((b) 9 = true → some k_ ≠ (v218 : Value).ownBlock) ∧ ((b) 10 = true → (b) 13 = false → some k_ ≠ (v221 : Value).ownBlock) ∧ ((b) 13 = true → some k_ ≠ (v224 : Value).ownBlock)) v230 y229) ∧ (b 19 = true → b 20 = false → w'.heap[gb232]? = some (.cells #[.int .i64 0, .slice none 0 0, .slice none 0 0, .slice none 0 0, .slice none 0 0, .slice none 0 0] 33 (0, 0))) ∧ (b 19 = true → w.heap.size ≤ gb232) ∧ (b 19 = true → w.heap.size ≤ gb232) ∧ (b 19 = true → gb206 ≠ gb232) ∧ (b 19 = true → gb232 ≠ gb206) ∧ (b 19 = true → gb207 ≠ gb232) ∧ (b 19 = true → gb232 ≠ gb207) ∧ (b 20 = true → w'.heap[gb232]? = some (.cells #[.int .i64 a0_0, .slice none 0 0, v212, v218, v224, v230] 33 (0, 0))) ∧ (b 18 = true → (m18_ : Value) = .agg #[.int .i64 a0_0, .slice none 0 0, v212, v218, v224, v230]) ∧ (b 19 = true → (m19_ : Value) = .pointer (some ⟨gb232, 0, none⟩))) HT_.out HW_.out (by kernel_rfl) (by kernel_rfl) ?_ ?_ ?_
  ·exact ⟨.bool false, .bool false, .bool false, .bool false, .bool false, .bool false, .bool false, .bool false, 0, .bool false, .bool false, by simp only [putSel, Bool.false_eq_true, if_false], BK206.out, BK207.out, HB.out, fun h_ => absurd h_ (by decide), fun h_ => absurd h_ (by decide), fun h_ => absurd h_ (by decide), fun h_ => absurd h_ (by decide), fun h_ => absurd h_ (by decide), fun h_ => absurd h_ (by decide), fun h_ => absurd h_ (by decide), fun h_ => absurd h_ (by decide), fun h_ => absurd h_ (by decide), fun h_ => absurd h_ (by decide), fun h_ => absurd h_ (by decide), fun h_ => absurd h_ (by decide), fun h_ => absurd h_ (by decide), fun h_ => absurd h_ (by decide), fun h_ => absurd h_ (by decide), fun h_ => absurd h_ (by decide), fun h_ => absurd h_ (by decide), fun h_ => absurd h_ (by decide)⟩
  ·skip
   clear BK206 BK207 HB
   refine steps_cons ?_ ?_
   ·rintro b a w' ⟨v209, v212, v215, v218, v221, v224, v227, v230, gb232, m18_, m19_, ha, Q_BK206, Q_BK207, Q_HB, Q_HO210, Q_HO213, Q_HO216, Q_HO219, Q_HO222, Q_HO225, Q_HO228, Q_HO231, Q_BK232, Q_GW232, Q_GE232, Q_NB206_232, Q_NB232_206, Q_NB207_232, Q_NB232_207, Q_BK232_e20, Q_X18_, Q_X19_⟩ hb_ hon hoff
    refine ⟨_, rfl, fun K hK => ?_⟩
    have e5 : a.tmps[5]? = some (.pointer (some ⟨gb206, 0, none⟩)) := by rw [ha]; exact (putSel_off rfl).trans rfl
    replace ha := Aside0.mk ha
    have BK206 := Aside0.mk Q_BK206
    have BK207 := Aside0.mk Q_BK207
    have HB := Aside0.mk Q_HB
    have hc0_ : w'.cell? ⟨gb206, 0, none⟩ = some (.int .i64 a0_0) := (blk_cell BK206.out 0).trans rfl
    have hc1_ : w'.cell? ⟨gb206, 1, none⟩ = some (.slice A0_1 l0_1.length c0_1) := (blk_cell BK206.out 1).trans rfl
    have hc2_ : w'.cell? ⟨gb206, 2, none⟩ = some (.slice A0_2 l0_2.length c0_2) := (blk_cell BK206.out 2).trans rfl
    have hc3_ : w'.cell? ⟨gb206, 3, none⟩ = some (.slice A0_3 l0_3.length c0_3) := (blk_cell BK206.out 3).trans rfl
    have hc4_ : w'.cell? ⟨gb206, 4, none⟩ = some (.slice A0_4 l0_4.length c0_4) := (blk_cell BK206.out 4).trans rfl
    have hc5_ : w'.cell? ⟨gb206, 5, none⟩ = some (.slice A0_5 l0_5.length c0_5) := (blk_cell BK206.out 5).trans rfl
    refine value_ (w1 := w') (v := .int .i64 a0_0) (by rfl) rfl ?_ ?_
    ·go_simp
    refine hK.out _ _ ⟨v209, v212, v215, v218, v221, v224, v227, v230, gb232, m18_, m19_, (by rw [ha.out]; exact putSel_upk 0 hb_ rfl rfl rfl), Q_BK206, Q_BK207, Q_HB, Q_HO210, Q_HO213, Q_HO216, Q_HO219, Q_HO222, Q_HO225, Q_HO228, Q_HO231, Q_BK232, Q_GW232, Q_GE232, Q_NB206_232, Q_NB232_206, Q_NB207_232, Q_NB232_207, fun h0_ => absurd ((hoff 20 (by kernel_rfl)).symm.trans h0_) (by decide), fun h0_ => absurd ((hoff 18 (by kernel_rfl)).symm.trans h0_) (by decide), Q_X19_⟩
   refine steps_cons ?_ ?_
   ·rintro b a w' ⟨v209, v212, v215, v218, v221, v224, v227, v230, gb232, m18_, m19_, ha, Q_BK206, Q_BK207, Q_HB, Q_HO210, Q_HO213, Q_HO216, Q_HO219, Q_HO222, Q_HO225, Q_HO228, Q_HO231, Q_BK232, Q_GW232, Q_GE232, Q_NB206_232, Q_NB232_206, Q_NB207_232, Q_NB232_207, Q_BK232_e20, Q_X18_, Q_X19_⟩ hb_ hon hoff
    refine ⟨_, rfl, fun K hK => ?_⟩
    replace ha := Aside0.mk ha
    have BK206 := Aside0.mk Q_BK206
    have BK207 := Aside0.mk Q_BK207
    have HB := Aside0.mk Q_HB
    refine Kd.R_lit_step (Kd.int .i64) _ 3 ?hg (N := 7) ?hd (xs := ([] : List Int)) (inner := []) (ok := fun _ => True) (okp := fun _ => True) ?hr ?hp (fun _ hk => hk) trivial (Below.refl _ _) (Nat.le_refl _) (by simp) ?_; (case hd => rfl); (case hg => rfl); (case hr => (go_simp; done)); (case hp => exact (Reps.none _ _))
    intro v209 w9 ho10 hb hg_ hnew_
    clear hg_ hnew_
    (rw [← Ny208.out] at ho10)
    have n0_ := Aside0.mk (Kd.R_lower ho10 (below_size (HB.out)))
    have NX_ := Aside0.mk (R_as (ok := (fun k_ => ((up b 2) 6 = true → (up b 2) 9 = false → some k_ ≠ (v215 : Value).ownBlock) ∧ ((up b 2) 9 = true → some k_ ≠ (v218 : Value).ownBlock) ∧ ((up b 2) 10 = true → (up b 2) 13 = false → some k_ ≠ (v221 : Value).ownBlock) ∧ ((up b 2) 13 = true → some k_ ≠ (v224 : Value).ownBlock) ∧ ((up b 2) 14 = true → (up b 2) 17 = false → some k_ ≠ (v227 : Value).ownBlock) ∧ ((up b 2) 17 = true → some k_ ≠ (v230 : Value).ownBlock))) n0_.out (fun k_ hk => ⟨fun h0_ h1_ => (by intro e_; have l1_ := Kd.R_lt (Q_HO216 h0_ h1_) k_ e_.symm; have l2_ := Kd.R_base ho10 k_ hk; omega), fun h0_ => (by intro e_; have l1_ := Kd.R_lt (Q_HO219 h0_) k_ e_.symm; have l2_ := Kd.R_base ho10 k_ hk; omega), fun h0_ h1_ => (by intro e_; have l1_ := Kd.R_lt (Q_HO222 h0_ h1_) k_ e_.symm; have l2_ := Kd.R_base ho10 k_ hk; omega), fun h0_ => (by intro e_; have l1_ := Kd.R_lt (Q_HO225 h0_) k_ e_.symm; have l2_ := Kd.R_base ho10 k_ hk; omega), fun h0_ h1_ => (by intro e_; have l1_ := Kd.R_lt (Q_HO228 h0_ h1_) k_ e_.symm; have l2_ := Kd.R_base ho10 k_ hk; omega), fun h0_ => (by intro e_; have l1_ := Kd.R_lt (Q_HO231 h0_) k_ e_.symm; have l2_ := Kd.R_base ho10 k_ hk; omega)⟩))
    have n1_ := Aside0.mk (blk_below (g := gb206) (o := .cells #[.int .i64 a0_0, .slice A0_1 l0_1.length c0_1, .slice A0_2 l0_2.length c0_2, .slice A0_3 l0_3.length c0_3, .slice A0_4 l0_4.length c0_4, .slice A0_5 l0_5.length c0_5] 33 (0, 0)) (by exact BK206.out) hb)
    have n2_ := Aside0.mk (blk_below (g := gb207) (o := .cells #[.int .i64 0, .slice none 0 0, .slice none 0 0, .slice none 0 0, .slice none 0 0, .slice none 0 0] 33 (0, 0)) (by exact BK207.out) hb)
    have n3_ := Aside0.mk (below_step (HB.out) hb)
    have z_HO216 := fun (h0_ : b 6 = true) (h1_ : b 9 = false) => (show Kd.R (Kd.int .i64) 3 w9 w.heap.size (fun k_ => ((up b 2) 2 = true → (up b 2) 5 = false → some k_ ≠ (v209 : Value).ownBlock) ∧ ((up b 2) 5 = true → some k_ ≠ (v212 : Value).ownBlock) ∧ ((up b 2) 10 = true → (up b 2) 13 = false → some k_ ≠ (v221 : Value).ownBlock) ∧ ((up b 2) 13 = true → some k_ ≠ (v224 : Value).ownBlock) ∧ ((up b 2) 14 = true → (up b 2) 17 = false → some k_ ≠ (v227 : Value).ownBlock) ∧ ((up b 2) 17 = true → some k_ ≠ (v230 : Value).ownBlock)) v215 y214 from Kd.R_mono (Kd.R_elder' (Q_HO216 h0_ h1_) (Kd.R_base ho10) hb) (fun k_ hk => ⟨fun _ _ => hk.2, fun h2_ => absurd ((hoff 5 (by kernel_rfl)).symm.trans h2_) (by decide), hk.1.2.2.1, hk.1.2.2.2.1, hk.1.2.2.2.2.1, hk.1.2.2.2.2.2⟩))
    have z_HO222 := fun (h0_ : b 10 = true) (h1_ : b 13 = false) => (show Kd.R (Kd.int .i64) 3 w9 w.heap.size (fun k_ => ((up b 2) 2 = true → (up b 2) 5 = false → some k_ ≠ (v209 : Value).ownBlock) ∧ ((up b 2) 5 = true → some k_ ≠ (v212 : Value).ownBlock) ∧ ((up b 2) 6 = true → (up b 2) 9 = false → some k_ ≠ (v215 : Value).ownBlock) ∧ ((up b 2) 9 = true → some k_ ≠ (v218 : Value).ownBlock) ∧ ((up b 2) 14 = true → (up b 2) 17 = false → some k_ ≠ (v227 : Value).ownBlock) ∧ ((up b 2) 17 = true → some k_ ≠ (v230 : Value).ownBlock)) v221 y220 from Kd.R_mono (Kd.R_elder' (Q_HO222 h0_ h1_) (Kd.R_base ho10) hb) (fun k_ hk => ⟨fun _ _ => hk.2, fun h2_ => absurd ((hoff 5 (by kernel_rfl)).symm.trans h2_) (by decide), hk.1.2.2.1, hk.1.2.2.2.1, hk.1.2.2.2.2.1, hk.1.2.2.2.2.2⟩))
    have z_HO228 := fun (h0_ : b 14 = true) (h1_ : b 17 = false) => (show Kd.R (Kd.int .i64) 3 w9 w.heap.size (fun k_ => ((up b 2) 2 = true → (up b 2) 5 = false → some k_ ≠ (v209 : Value).ownBlock) ∧ ((up b 2) 5 = true → some k_ ≠ (v212 : Value).ownBlock) ∧ ((up b 2) 6 = true → (up b 2) 9 = false → some k_ ≠ (v215 : Value).ownBlock) ∧ ((up b 2) 9 = true → some k_ ≠ (v218 : Value).ownBlock) ∧ ((up b 2) 10 = true → (up b 2) 13 = false → some k_ ≠ (v221 : Value).ownBlock) ∧ ((up b 2) 13 = true → some k_ ≠ (v224 : Value).ownBlock)) v227 y226 from Kd.R_mono (Kd.R_elder' (Q_HO228 h0_ h1_) (Kd.R_base ho10) hb) (fun k_ hk => ⟨fun _ _ => hk.2, fun h2_ => absurd ((hoff 5 (by kernel_rfl)).symm.trans h2_) (by decide), hk.1.2.2.1, hk.1.2.2.2.1, hk.1.2.2.2.2.1, hk.1.2.2.2.2.2⟩))
    have z_BK232 := fun (h0_ : b 19 = true) (h1_ : b 20 = false) => (show w9.heap[gb232]? = some (.cells #[.int .i64 0, .slice none 0 0, .slice none 0 0, .slice none 0 0, .slice none 0 0, .slice none 0 0] 33 (0, 0)) from by exact (blk_below (g := gb232) (o := .cells #[.int .i64 0, .slice none 0 0, .slice none 0 0, .slice none 0 0, .slice none 0 0, .slice none 0 0] 33 (0, 0)) (by exact (Q_BK232 h0_ h1_)) hb))
    clear BK206 BK207 HB
    have HO210 := n0_
    have BK206 := n1_
    have BK207 := n2_
    have HB := n3_
    clear n0_ n1_ n2_ n3_ hb ho10
    refine hK.out _ _ ⟨v209, v212, v215, v218, v221, v224, v227, v230, gb232, m18_, m19_, (by rw [ha.out]; exact putSel_upk 1 hb_ rfl rfl rfl), (by exact BK206.out), (by exact BK207.out), (HB.out), fun _ _ => (by exact NX_.out), fun h0_ => absurd ((hoff 5 (by kernel_rfl)).symm.trans h0_) (by decide), z_HO216, fun h0_ => absurd ((hoff 9 (by kernel_rfl)).symm.trans h0_) (by decide), z_HO222, fun h0_ => absurd ((hoff 13 (by kernel_rfl)).symm.trans h0_) (by decide), z_HO228, fun h0_ => absurd ((hoff 17 (by kernel_rfl)).symm.trans h0_) (by decide), z_BK232, Q_GW232, Q_GE232, Q_NB206_232, Q_NB232_206, Q_NB207_232, Q_NB232_207, fun h0_ => absurd ((hoff 20 (by kernel_rfl)).symm.trans h0_) (by decide), fun h0_ => absurd ((hoff 18 (by kernel_rfl)).symm.trans h0_) (by decide), Q_X19_⟩
   refine steps_cons ?_ ?_
   ·rintro b a w' ⟨v209, v212, v215, v218, v221, v224, v227, v230, gb232, m18_, m19_, ha, Q_BK206, Q_BK207, Q_HB, Q_HO210, Q_HO213, Q_HO216, Q_HO219, Q_HO222, Q_HO225, Q_HO228, Q_HO231, Q_BK232, Q_GW232, Q_GE232, Q_NB206_232, Q_NB232_206, Q_NB207_232, Q_NB232_207, Q_BK232_e20, Q_X18_, Q_X19_⟩ hb_ hon hoff
    refine ⟨_, rfl, fun K hK => ?_⟩
    have e8 : a.tmps[8]? = some (.pointer (some ⟨gb206, 2, none⟩)) := by rw [ha]; exact (putSel_off rfl).trans rfl
    replace ha := Aside0.mk ha
    have BK206 := Aside0.mk Q_BK206
    have BK207 := Aside0.mk Q_BK207
    have HB := Aside0.mk Q_HB
    have hc0_ : w'.cell? ⟨gb206, 0, none⟩ = some (.int .i64 a0_0) := (blk_cell BK206.out 0).trans rfl
    have hc1_ : w'.cell? ⟨gb206, 1, none⟩ = some (.slice A0_1 l0_1.length c0_1) := (blk_cell BK206.out 1).trans rfl
    have hc2_ : w'.cell? ⟨gb206, 2, none⟩ = some (.slice A0_2 l0_2.length c0_2) := (blk_cell BK206.out 2).trans rfl
    have hc3_ : w'.cell? ⟨gb206, 3, none⟩ = some (.slice A0_3 l0_3.length c0_3) := (blk_cell BK206.out 3).trans rfl
    have hc4_ : w'.cell? ⟨gb206, 4, none⟩ = some (.slice A0_4 l0_4.length c0_4) := (blk_cell BK206.out 4).trans rfl
    have hc5_ : w'.cell? ⟨gb206, 5, none⟩ = some (.slice A0_5 l0_5.length c0_5) := (blk_cell BK206.out 5).trans rfl
    refine value_ (w1 := w') (v := .slice A0_2 l0_2.length c0_2) (by rfl) rfl ?_ ?_
    ·go_simp
    refine hK.out _ _ ⟨v209, v212, v215, v218, v221, v224, v227, v230, gb232, m18_, m19_, (by rw [ha.out]; exact putSel_upk 2 hb_ rfl rfl rfl), Q_BK206, Q_BK207, Q_HB, Q_HO210, fun h0_ => absurd ((hoff 5 (by kernel_rfl)).symm.trans h0_) (by decide), Q_HO216, fun h0_ => absurd ((hoff 9 (by kernel_rfl)).symm.trans h0_) (by decide), Q_HO222, fun h0_ => absurd ((hoff 13 (by kernel_rfl)).symm.trans h0_) (by decide), Q_HO228, fun h0_ => absurd ((hoff 17 (by kernel_rfl)).symm.trans h0_) (by decide), Q_BK232, Q_GW232, Q_GE232, Q_NB206_232, Q_NB232_206, Q_NB207_232, Q_NB232_207, fun h0_ => absurd ((hoff 20 (by kernel_rfl)).symm.trans h0_) (by decide), fun h0_ => absurd ((hoff 18 (by kernel_rfl)).symm.trans h0_) (by decide), Q_X19_⟩
   refine steps_cons ?_ ?_
   ·rintro b a w' ⟨v209, v212, v215, v218, v221, v224, v227, v230, gb232, m18_, m19_, ha, Q_BK206, Q_BK207, Q_HB, Q_HO210, Q_HO213, Q_HO216, Q_HO219, Q_HO222, Q_HO225, Q_HO228, Q_HO231, Q_BK232, Q_GW232, Q_GE232, Q_NB206_232, Q_NB232_206, Q_NB207_232, Q_NB232_207, Q_BK232_e20, Q_X18_, Q_X19_⟩ hb_ hon hoff
    refine ⟨_, rfl, fun K hK => ?_⟩
    have e7 : a.tmps[7]? = some (v209) := by rw [ha]; exact putSel_on (e := (2, 7, v209)) 1 rfl rfl (hon 2 (by kernel_rfl)) rfl
    have e9 : a.tmps[9]? = some (.slice A0_2 l0_2.length c0_2) := by rw [ha]; exact putSel_on (e := (4, 9, .slice A0_2 l0_2.length c0_2)) 2 rfl rfl (hon 4 (by kernel_rfl)) rfl
    replace ha := Aside0.mk ha
    have BK206 := Aside0.mk Q_BK206
    have BK207 := Aside0.mk Q_BK207
    have HB := Aside0.mk Q_HB
    have K_HO210 := Aside0.mk (Q_HO210 (hon 2 (by kernel_rfl)) hb_)
    have HO210 := Aside0.mk (Kd.R_mono K_HO210.out (ok' := fun _ => True) (fun _ _ => trivial))
    refine Kd.R_append_rows_step (Kd.int .i64) (w0 := w) w.heap.size (by rfl) (.tmp 7) (.tmp 9) 22 3 (.int .i64 0) 8 rfl Try.underlying22 info3 rfl (by decide) (by omega) v209 y208 l0_2 _ _ _ (fun _ => True) (fun _ => False) (by exact eval_of e7) (by exact eval_of e9) ?aO ?aR (fun _ _ h => h) (fun _ h => h.elim) ?aF ?aB ?aS ?aL ?_
    (case aR => repeat (exact (Kd.C_below HR0_2.out HB.out)))
    (case aB => exact (HB.out))
    (case aF => exact (fun _ _ => trivial))
    (case aO => exact HO210.out)
    (case aS => exact (below_size (HB.out)))
    (case aL => have := LMc2.out; omega)
    intro v212 w12 ho hb hg hat
    rw [← Ny211.out] at ho
    have NX_ := Aside0.mk (R_as (ok := (fun k_ => ((up b 5) 6 = true → (up b 5) 9 = false → some k_ ≠ (v215 : Value).ownBlock) ∧ ((up b 5) 9 = true → some k_ ≠ (v218 : Value).ownBlock) ∧ ((up b 5) 10 = true → (up b 5) 13 = false → some k_ ≠ (v221 : Value).ownBlock) ∧ ((up b 5) 13 = true → some k_ ≠ (v224 : Value).ownBlock) ∧ ((up b 5) 14 = true → (up b 5) 17 = false → some k_ ≠ (v227 : Value).ownBlock) ∧ ((up b 5) 17 = true → some k_ ≠ (v230 : Value).ownBlock))) ho (fun k_ hk => ⟨fun h0_ h1_ => (hat.elim (fun e1_ => (K_HO210.out.1 k_ (e1_ ▸ hk)).1 h0_ h1_) (fun ⟨b1_, e1_, e2_⟩ e_ => by have l1_ := Kd.R_lt (Q_HO216 h0_ h1_) k_ e_.symm; rw [e1_] at hk; cases hk; omega)), fun h0_ => (hat.elim (fun e1_ => (K_HO210.out.1 k_ (e1_ ▸ hk)).2.1 h0_) (fun ⟨b1_, e1_, e2_⟩ e_ => by have l1_ := Kd.R_lt (Q_HO219 h0_) k_ e_.symm; rw [e1_] at hk; cases hk; omega)), fun h0_ h1_ => (hat.elim (fun e1_ => (K_HO210.out.1 k_ (e1_ ▸ hk)).2.2.1 h0_ h1_) (fun ⟨b1_, e1_, e2_⟩ e_ => by have l1_ := Kd.R_lt (Q_HO222 h0_ h1_) k_ e_.symm; rw [e1_] at hk; cases hk; omega)), fun h0_ => (hat.elim (fun e1_ => (K_HO210.out.1 k_ (e1_ ▸ hk)).2.2.2.1 h0_) (fun ⟨b1_, e1_, e2_⟩ e_ => by have l1_ := Kd.R_lt (Q_HO225 h0_) k_ e_.symm; rw [e1_] at hk; cases hk; omega)), fun h0_ h1_ => (hat.elim (fun e1_ => (K_HO210.out.1 k_ (e1_ ▸ hk)).2.2.2.2.1 h0_ h1_) (fun ⟨b1_, e1_, e2_⟩ e_ => by have l1_ := Kd.R_lt (Q_HO228 h0_ h1_) k_ e_.symm; rw [e1_] at hk; cases hk; omega)), fun h0_ => (hat.elim (fun e1_ => (K_HO210.out.1 k_ (e1_ ▸ hk)).2.2.2.2.2 h0_) (fun ⟨b1_, e1_, e2_⟩ e_ => by have l1_ := Kd.R_lt (Q_HO231 h0_) k_ e_.symm; rw [e1_] at hk; cases hk; omega))⟩))
    have n0_ := Aside0.mk (blk_grown (g := gb206) (o := .cells #[.int .i64 a0_0, .slice A0_1 l0_1.length c0_1, .slice A0_2 l0_2.length c0_2, .slice A0_3 l0_3.length c0_3, .slice A0_4 l0_4.length c0_4, .slice A0_5 l0_5.length c0_5] 33 (0, 0)) (by exact BK206.out) hg (Kd.R_ne HO210.out BK206.out (by decide)))
    have n1_ := Aside0.mk (blk_grown (g := gb207) (o := .cells #[.int .i64 0, .slice none 0 0, .slice none 0 0, .slice none 0 0, .slice none 0 0, .slice none 0 0] 33 (0, 0)) (by exact BK207.out) hg (Kd.R_ne HO210.out BK207.out (by decide)))
    have n2_ := Aside0.mk (hb)
    have n3_ := Aside0.mk (ho)
    have z_HO216 := fun (h0_ : b 6 = true) (h1_ : b 9 = false) => (show Kd.R (Kd.int .i64) 3 w12 w.heap.size (fun k_ => ((up b 5) 2 = true → (up b 5) 5 = false → some k_ ≠ (v209 : Value).ownBlock) ∧ ((up b 5) 5 = true → some k_ ≠ (v212 : Value).ownBlock) ∧ ((up b 5) 10 = true → (up b 5) 13 = false → some k_ ≠ (v221 : Value).ownBlock) ∧ ((up b 5) 13 = true → some k_ ≠ (v224 : Value).ownBlock) ∧ ((up b 5) 14 = true → (up b 5) 17 = false → some k_ ≠ (v227 : Value).ownBlock) ∧ ((up b 5) 17 = true → some k_ ≠ (v230 : Value).ownBlock)) v215 y214 from Kd.R_mono (Kd.R_after (ok := (fun k_ => ((b) 10 = true → (b) 13 = false → some k_ ≠ (v221 : Value).ownBlock) ∧ ((b) 13 = true → some k_ ≠ (v224 : Value).ownBlock) ∧ ((b) 14 = true → (b) 17 = false → some k_ ≠ (v227 : Value).ownBlock) ∧ ((b) 17 = true → some k_ ≠ (v230 : Value).ownBlock))) (Kd.R_mono (Q_HO216 h0_ h1_) (fun k_ hk => ⟨⟨hk.2.2.1, hk.2.2.2.1, hk.2.2.2.2.1, hk.2.2.2.2.2⟩, (hk.1) (hon 2 (by kernel_rfl)) hb_⟩)) hg hat) (fun k_ hk => ⟨fun _ h2_ => absurd ((up_self b 5).symm.trans h2_) (by decide), fun _ => hk.2, hk.1.1, hk.1.2.1, hk.1.2.2.1, hk.1.2.2.2⟩))
    have z_HO222 := fun (h0_ : b 10 = true) (h1_ : b 13 = false) => (show Kd.R (Kd.int .i64) 3 w12 w.heap.size (fun k_ => ((up b 5) 2 = true → (up b 5) 5 = false → some k_ ≠ (v209 : Value).ownBlock) ∧ ((up b 5) 5 = true → some k_ ≠ (v212 : Value).ownBlock) ∧ ((up b 5) 6 = true → (up b 5) 9 = false → some k_ ≠ (v215 : Value).ownBlock) ∧ ((up b 5) 9 = true → some k_ ≠ (v218 : Value).ownBlock) ∧ ((up b 5) 14 = true → (up b 5) 17 = false → some k_ ≠ (v227 : Value).ownBlock) ∧ ((up b 5) 17 = true → some k_ ≠ (v230 : Value).ownBlock)) v221 y220 from Kd.R_mono (Kd.R_after (ok := (fun k_ => ((b) 6 = true → (b) 9 = false → some k_ ≠ (v215 : Value).ownBlock) ∧ ((b) 9 = true → some k_ ≠ (v218 : Value).ownBlock) ∧ ((b) 14 = true → (b) 17 = false → some k_ ≠ (v227 : Value).ownBlock) ∧ ((b) 17 = true → some k_ ≠ (v230 : Value).ownBlock))) (Kd.R_mono (Q_HO222 h0_ h1_) (fun k_ hk => ⟨⟨hk.2.2.1, hk.2.2.2.1, hk.2.2.2.2.1, hk.2.2.2.2.2⟩, (hk.1) (hon 2 (by kernel_rfl)) hb_⟩)) hg hat) (fun k_ hk => ⟨fun _ h2_ => absurd ((up_self b 5).symm.trans h2_) (by decide), fun _ => hk.2, hk.1.1, hk.1.2.1, hk.1.2.2.1, hk.1.2.2.2⟩))
    have z_HO228 := fun (h0_ : b 14 = true) (h1_ : b 17 = false) => (show Kd.R (Kd.int .i64) 3 w12 w.heap.size (fun k_ => ((up b 5) 2 = true → (up b 5) 5 = false → some k_ ≠ (v209 : Value).ownBlock) ∧ ((up b 5) 5 = true → some k_ ≠ (v212 : Value).ownBlock) ∧ ((up b 5) 6 = true → (up b 5) 9 = false → some k_ ≠ (v215 : Value).ownBlock) ∧ ((up b 5) 9 = true → some k_ ≠ (v218 : Value).ownBlock) ∧ ((up b 5) 10 = true → (up b 5) 13 = false → some k_ ≠ (v221 : Value).ownBlock) ∧ ((up b 5) 13 = true → some k_ ≠ (v224 : Value).ownBlock)) v227 y226 from Kd.R_mono (Kd.R_after (ok := (fun k_ => ((b) 6 = true → (b) 9 = false → some k_ ≠ (v215 : Value).ownBlock) ∧ ((b) 9 = true → some k_ ≠ (v218 : Value).ownBlock) ∧ ((b) 10 = true → (b) 13 = false → some k_ ≠ (v221 : Value).ownBlock) ∧ ((b) 13 = true → some k_ ≠ (v224 : Value).ownBlock))) (Kd.R_mono (Q_HO228 h0_ h1_) (fun k_ hk => ⟨⟨hk.2.2.1, hk.2.2.2.1, hk.2.2.2.2.1, hk.2.2.2.2.2⟩, (hk.1) (hon 2 (by kernel_rfl)) hb_⟩)) hg hat) (fun k_ hk => ⟨fun _ h2_ => absurd ((up_self b 5).symm.trans h2_) (by decide), fun _ => hk.2, hk.1.1, hk.1.2.1, hk.1.2.2.1, hk.1.2.2.2⟩))
    have z_BK232 := fun (h0_ : b 19 = true) (h1_ : b 20 = false) => (show w12.heap[gb232]? = some (.cells #[.int .i64 0, .slice none 0 0, .slice none 0 0, .slice none 0 0, .slice none 0 0, .slice none 0 0] 33 (0, 0)) from by exact (blk_grown (g := gb232) (o := .cells #[.int .i64 0, .slice none 0 0, .slice none 0 0, .slice none 0 0, .slice none 0 0, .slice none 0 0] 33 (0, 0)) (by exact (Q_BK232 h0_ h1_)) hg (Kd.R_ne HO210.out (Q_BK232 h0_ h1_) (by decide))))
    clear BK206 BK207 HB HO210
    have BK206 := n0_
    have BK207 := n1_
    have HB := n2_
    have HO213 := n3_
    clear n0_ n1_ n2_ n3_ ho hb hg hat
    refine hK.out _ _ ⟨v209, v212, v215, v218, v221, v224, v227, v230, gb232, m18_, m19_, (by rw [ha.out]; exact putSel_upk 3 hb_ rfl rfl rfl), (by exact BK206.out), (by exact BK207.out), (HB.out), fun _ h1_ => absurd ((up_self b 5).symm.trans h1_) (by decide), fun _ => (by exact NX_.out), z_HO216, fun h0_ => absurd ((hoff 9 (by kernel_rfl)).symm.trans h0_) (by decide), z_HO222, fun h0_ => absurd ((hoff 13 (by kernel_rfl)).symm.trans h0_) (by decide), z_HO228, fun h0_ => absurd ((hoff 17 (by kernel_rfl)).symm.trans h0_) (by decide), z_BK232, Q_GW232, Q_GE232, Q_NB206_232, Q_NB232_206, Q_NB207_232, Q_NB232_207, fun h0_ => absurd ((hoff 20 (by kernel_rfl)).symm.trans h0_) (by decide), fun h0_ => absurd ((hoff 18 (by kernel_rfl)).symm.trans h0_) (by decide), Q_X19_⟩
   refine steps_cons ?_ ?_
   ·rintro b a w' ⟨v209, v212, v215, v218, v221, v224, v227, v230, gb232, m18_, m19_, ha, Q_BK206, Q_BK207, Q_HB, Q_HO210, Q_HO213, Q_HO216, Q_HO219, Q_HO222, Q_HO225, Q_HO228, Q_HO231, Q_BK232, Q_GW232, Q_GE232, Q_NB206_232, Q_NB232_206, Q_NB207_232, Q_NB232_207, Q_BK232_e20, Q_X18_, Q_X19_⟩ hb_ hon hoff
    refine ⟨_, rfl, fun K hK => ?_⟩
    replace ha := Aside0.mk ha
    have BK206 := Aside0.mk Q_BK206
    have BK207 := Aside0.mk Q_BK207
    have HB := Aside0.mk Q_HB
    refine Kd.R_lit_step (Kd.int .i64) _ 3 ?hg (N := 11) ?hd (xs := ([] : List Int)) (inner := []) (ok := fun _ => True) (okp := fun _ => True) ?hr ?hp (fun _ hk => hk) trivial (Below.refl _ _) (Nat.le_refl _) (by simp) ?_; (case hd => rfl); (case hg => rfl); (case hr => (go_simp; done)); (case hp => exact (Reps.none _ _))
    intro v215 w9 ho10 hb hg_ hnew_
    clear hg_ hnew_
    (rw [← Ny214.out] at ho10)
    have n0_ := Aside0.mk (Kd.R_lower ho10 (below_size (HB.out)))
    have NX_ := Aside0.mk (R_as (ok := (fun k_ => ((up b 6) 2 = true → (up b 6) 5 = false → some k_ ≠ (v209 : Value).ownBlock) ∧ ((up b 6) 5 = true → some k_ ≠ (v212 : Value).ownBlock) ∧ ((up b 6) 10 = true → (up b 6) 13 = false → some k_ ≠ (v221 : Value).ownBlock) ∧ ((up b 6) 13 = true → some k_ ≠ (v224 : Value).ownBlock) ∧ ((up b 6) 14 = true → (up b 6) 17 = false → some k_ ≠ (v227 : Value).ownBlock) ∧ ((up b 6) 17 = true → some k_ ≠ (v230 : Value).ownBlock))) n0_.out (fun k_ hk => ⟨fun h0_ h1_ => (by intro e_; have l1_ := Kd.R_lt (Q_HO210 h0_ h1_) k_ e_.symm; have l2_ := Kd.R_base ho10 k_ hk; omega), fun h0_ => (by intro e_; have l1_ := Kd.R_lt (Q_HO213 h0_) k_ e_.symm; have l2_ := Kd.R_base ho10 k_ hk; omega), fun h0_ h1_ => (by intro e_; have l1_ := Kd.R_lt (Q_HO222 h0_ h1_) k_ e_.symm; have l2_ := Kd.R_base ho10 k_ hk; omega), fun h0_ => (by intro e_; have l1_ := Kd.R_lt (Q_HO225 h0_) k_ e_.symm; have l2_ := Kd.R_base ho10 k_ hk; omega), fun h0_ h1_ => (by intro e_; have l1_ := Kd.R_lt (Q_HO228 h0_ h1_) k_ e_.symm; have l2_ := Kd.R_base ho10 k_ hk; omega), fun h0_ => (by intro e_; have l1_ := Kd.R_lt (Q_HO231 h0_) k_ e_.symm; have l2_ := Kd.R_base ho10 k_ hk; omega)⟩))
    have n1_ := Aside0.mk (blk_below (g := gb206) (o := .cells #[.int .i64 a0_0, .slice A0_1 l0_1.length c0_1, .slice A0_2 l0_2.length c0_2, .slice A0_3 l0_3.length c0_3, .slice A0_4 l0_4.length c0_4, .slice A0_5 l0_5.length c0_5] 33 (0, 0)) (by exact BK206.out) hb)
    have n2_ := Aside0.mk (blk_below (g := gb207) (o := .cells #[.int .i64 0, .slice none 0 0, .slice none 0 0, .slice none 0 0, .slice none 0 0, .slice none 0 0] 33 (0, 0)) (by exact BK207.out) hb)
    have n3_ := Aside0.mk (below_step (HB.out) hb)
    have z_HO210 := fun (h0_ : b 2 = true) (h1_ : b 5 = false) => (show Kd.R (Kd.int .i64) 3 w9 w.heap.size (fun k_ => ((up b 6) 6 = true → (up b 6) 9 = false → some k_ ≠ (v215 : Value).ownBlock) ∧ ((up b 6) 9 = true → some k_ ≠ (v218 : Value).ownBlock) ∧ ((up b 6) 10 = true → (up b 6) 13 = false → some k_ ≠ (v221 : Value).ownBlock) ∧ ((up b 6) 13 = true → some k_ ≠ (v224 : Value).ownBlock) ∧ ((up b 6) 14 = true → (up b 6) 17 = false → some k_ ≠ (v227 : Value).ownBlock) ∧ ((up b 6) 17 = true → some k_ ≠ (v230 : Value).ownBlock)) v209 y208 from Kd.R_mono (Kd.R_elder' (Q_HO210 h0_ h1_) (Kd.R_base ho10) hb) (fun k_ hk => ⟨fun _ _ => hk.2, fun h2_ => absurd ((hoff 9 (by kernel_rfl)).symm.trans h2_) (by decide), hk.1.2.2.1, hk.1.2.2.2.1, hk.1.2.2.2.2.1, hk.1.2.2.2.2.2⟩))
    have z_HO213 := fun (h0_ : b 5 = true) => (show Kd.R (Kd.int .i64) 3 w9 w.heap.size (fun k_ => ((up b 6) 6 = true → (up b 6) 9 = false → some k_ ≠ (v215 : Value).ownBlock) ∧ ((up b 6) 9 = true → some k_ ≠ (v218 : Value).ownBlock) ∧ ((up b 6) 10 = true → (up b 6) 13 = false → some k_ ≠ (v221 : Value).ownBlock) ∧ ((up b 6) 13 = true → some k_ ≠ (v224 : Value).ownBlock) ∧ ((up b 6) 14 = true → (up b 6) 17 = false → some k_ ≠ (v227 : Value).ownBlock) ∧ ((up b 6) 17 = true → some k_ ≠ (v230 : Value).ownBlock)) v212 y211 from Kd.R_mono (Kd.R_elder' (Q_HO213 h0_) (Kd.R_base ho10) hb) (fun k_ hk => ⟨fun _ _ => hk.2, fun h2_ => absurd ((hoff 9 (by kernel_rfl)).symm.trans h2_) (by decide), hk.1.2.2.1, hk.1.2.2.2.1, hk.1.2.2.2.2.1, hk.1.2.2.2.2.2⟩))
    have z_HO222 := fun (h0_ : b 10 = true) (h1_ : b 13 = false) => (show Kd.R (Kd.int .i64) 3 w9 w.heap.size (fun k_ => ((up b 6) 2 = true → (up b 6) 5 = false → some k_ ≠ (v209 : Value).ownBlock) ∧ ((up b 6) 5 = true → some k_ ≠ (v212 : Value).ownBlock) ∧ ((up b 6) 6 = true → (up b 6) 9 = false → some k_ ≠ (v215 : Value).ownBlock) ∧ ((up b 6) 9 = true → some k_ ≠ (v218 : Value).ownBlock) ∧ ((up b 6) 14 = true → (up b 6) 17 = false → some k_ ≠ (v227 : Value).ownBlock) ∧ ((up b 6) 17 = true → some k_ ≠ (v230 : Value).ownBlock)) v221 y220 from Kd.R_mono (Kd.R_elder' (Q_HO222 h0_ h1_) (Kd.R_base ho10) hb) (fun k_ hk => ⟨hk.1.1, hk.1.2.1, fun _ _ => hk.2, fun h2_ => absurd ((hoff 9 (by kernel_rfl)).symm.trans h2_) (by decide), hk.1.2.2.2.2.1, hk.1.2.2.2.2.2⟩))
    have z_HO228 := fun (h0_ : b 14 = true) (h1_ : b 17 = false) => (show Kd.R (Kd.int .i64) 3 w9 w.heap.size (fun k_ => ((up b 6) 2 = true → (up b 6) 5 = false → some k_ ≠ (v209 : Value).ownBlock) ∧ ((up b 6) 5 = true → some k_ ≠ (v212 : Value).ownBlock) ∧ ((up b 6) 6 = true → (up b 6) 9 = false → some k_ ≠ (v215 : Value).ownBlock) ∧ ((up b 6) 9 = true → some k_ ≠ (v218 : Value).ownBlock) ∧ ((up b 6) 10 = true → (up b 6) 13 = false → some k_ ≠ (v221 : Value).ownBlock) ∧ ((up b 6) 13 = true → some k_ ≠ (v224 : Value).ownBlock)) v227 y226 from Kd.R_mono (Kd.R_elder' (Q_HO228 h0_ h1_) (Kd.R_base ho10) hb) (fun k_ hk => ⟨hk.1.1, hk.1.2.1, fun _ _ => hk.2, fun h2_ => absurd ((hoff 9 (by kernel_rfl)).symm.trans h2_) (by decide), hk.1.2.2.2.2.1, hk.1.2.2.2.2.2⟩))
    have z_BK232 := fun (h0_ : b 19 = true) (h1_ : b 20 = false) => (show w9.heap[gb232]? = some (.cells #[.int .i64 0, .slice none 0 0, .slice none 0 0, .slice none 0 0, .slice none 0 0, .slice none 0 0] 33 (0, 0)) from by exact (blk_below (g := gb232) (o := .cells #[.int .i64 0, .slice none 0 0, .slice none 0 0, .slice none 0 0, .slice none 0 0, .slice none 0 0] 33 (0, 0)) (by exact (Q_BK232 h0_ h1_)) hb))
    clear BK206 BK207 HB
    have HO216 := n0_
    have BK206 := n1_
    have BK207 := n2_
    have HB := n3_
    clear n0_ n1_ n2_ n3_ hb ho10
    refine hK.out _ _ ⟨v209, v212, v215, v218, v221, v224, v227, v230, gb232, m18_, m19_, (by rw [ha.out]; exact putSel_upk 4 hb_ rfl rfl rfl), (by exact BK206.out), (by exact BK207.out), (HB.out), z_HO210, z_HO213, fun _ _ => (by exact NX_.out), fun h0_ => absurd ((hoff 9 (by kernel_rfl)).symm.trans h0_) (by decide), z_HO222, fun h0_ => absurd ((hoff 13 (by kernel_rfl)).symm.trans h0_) (by decide), z_HO228, fun h0_ => absurd ((hoff 17 (by kernel_rfl)).symm.trans h0_) (by decide), z_BK232, Q_GW232, Q_GE232, Q_NB206_232, Q_NB232_206, Q_NB207_232, Q_NB232_207, fun h0_ => absurd ((hoff 20 (by kernel_rfl)).symm.trans h0_) (by decide), fun h0_ => absurd ((hoff 18 (by kernel_rfl)).symm.trans h0_) (by decide), Q_X19_⟩
   refine steps_cons ?_ ?_
   ·rintro b a w' ⟨v209, v212, v215, v218, v221, v224, v227, v230, gb232, m18_, m19_, ha, Q_BK206, Q_BK207, Q_HB, Q_HO210, Q_HO213, Q_HO216, Q_HO219, Q_HO222, Q_HO225, Q_HO228, Q_HO231, Q_BK232, Q_GW232, Q_GE232, Q_NB206_232, Q_NB232_206, Q_NB207_232, Q_NB232_207, Q_BK232_e20, Q_X18_, Q_X19_⟩ hb_ hon hoff
    refine ⟨_, rfl, fun K hK => ?_⟩
    have e12 : a.tmps[12]? = some (.pointer (some ⟨gb206, 3, none⟩)) := by rw [ha]; exact (putSel_off rfl).trans rfl
    replace ha := Aside0.mk ha
    have BK206 := Aside0.mk Q_BK206
    have BK207 := Aside0.mk Q_BK207
    have HB := Aside0.mk Q_HB
    have hc0_ : w'.cell? ⟨gb206, 0, none⟩ = some (.int .i64 a0_0) := (blk_cell BK206.out 0).trans rfl
    have hc1_ : w'.cell? ⟨gb206, 1, none⟩ = some (.slice A0_1 l0_1.length c0_1) := (blk_cell BK206.out 1).trans rfl
    have hc2_ : w'.cell? ⟨gb206, 2, none⟩ = some (.slice A0_2 l0_2.length c0_2) := (blk_cell BK206.out 2).trans rfl
    have hc3_ : w'.cell? ⟨gb206, 3, none⟩ = some (.slice A0_3 l0_3.length c0_3) := (blk_cell BK206.out 3).trans rfl
    have hc4_ : w'.cell? ⟨gb206, 4, none⟩ = some (.slice A0_4 l0_4.length c0_4) := (blk_cell BK206.out 4).trans rfl
    have hc5_ : w'.cell? ⟨gb206, 5, none⟩ = some (.slice A0_5 l0_5.length c0_5) := (blk_cell BK206.out 5).trans rfl
    refine value_ (w1 := w') (v := .slice A0_3 l0_3.length c0_3) (by rfl) rfl ?_ ?_
    ·go_simp
    refine hK.out _ _ ⟨v209, v212, v215, v218, v221, v224, v227, v230, gb232, m18_, m19_, (by rw [ha.out]; exact putSel_upk 5 hb_ rfl rfl rfl), Q_BK206, Q_BK207, Q_HB, Q_HO210, Q_HO213, Q_HO216, fun h0_ => absurd ((hoff 9 (by kernel_rfl)).symm.trans h0_) (by decide), Q_HO222, fun h0_ => absurd ((hoff 13 (by kernel_rfl)).symm.trans h0_) (by decide), Q_HO228, fun h0_ => absurd ((hoff 17 (by kernel_rfl)).symm.trans h0_) (by decide), Q_BK232, Q_GW232, Q_GE232, Q_NB206_232, Q_NB232_206, Q_NB207_232, Q_NB232_207, fun h0_ => absurd ((hoff 20 (by kernel_rfl)).symm.trans h0_) (by decide), fun h0_ => absurd ((hoff 18 (by kernel_rfl)).symm.trans h0_) (by decide), Q_X19_⟩
   refine steps_cons ?_ ?_
   ·rintro b a w' ⟨v209, v212, v215, v218, v221, v224, v227, v230, gb232, m18_, m19_, ha, Q_BK206, Q_BK207, Q_HB, Q_HO210, Q_HO213, Q_HO216, Q_HO219, Q_HO222, Q_HO225, Q_HO228, Q_HO231, Q_BK232, Q_GW232, Q_GE232, Q_NB206_232, Q_NB232_206, Q_NB207_232, Q_NB232_207, Q_BK232_e20, Q_X18_, Q_X19_⟩ hb_ hon hoff
    refine ⟨_, rfl, fun K hK => ?_⟩
    have e11 : a.tmps[11]? = some (v215) := by rw [ha]; exact putSel_on (e := (6, 11, v215)) 4 rfl rfl (hon 6 (by kernel_rfl)) rfl
    have e13 : a.tmps[13]? = some (.slice A0_3 l0_3.length c0_3) := by rw [ha]; exact putSel_on (e := (8, 13, .slice A0_3 l0_3.length c0_3)) 5 rfl rfl (hon 8 (by kernel_rfl)) rfl
    replace ha := Aside0.mk ha
    have BK206 := Aside0.mk Q_BK206
    have BK207 := Aside0.mk Q_BK207
    have HB := Aside0.mk Q_HB
    have HO213 := Aside0.mk (Q_HO213 (hon 5 (by kernel_rfl)))
    have K_HO216 := Aside0.mk (Q_HO216 (hon 6 (by kernel_rfl)) hb_)
    have HO216 := Aside0.mk (Kd.R_mono K_HO216.out (ok' := fun _ => True) (fun _ _ => trivial))
    refine Kd.R_append_rows_step (Kd.int .i64) (w0 := w) w.heap.size (by rfl) (.tmp 11) (.tmp 13) 22 3 (.int .i64 0) 8 rfl Try.underlying22 info3 rfl (by decide) (by omega) v215 y214 l0_3 _ _ _ (fun _ => True) (fun _ => False) (by exact eval_of e11) (by exact eval_of e13) ?aO ?aR (fun _ _ h => h) (fun _ h => h.elim) ?aF ?aB ?aS ?aL ?_
    (case aR => repeat (exact (Kd.C_below HR0_3.out HB.out)))
    (case aB => exact (HB.out))
    (case aF => exact (fun _ _ => trivial))
    (case aO => exact HO216.out)
    (case aS => exact (below_size (HB.out)))
    (case aL => have := LMc3.out; omega)
    intro v218 w15 ho hb hg hat
    rw [← Ny217.out] at ho
    have NX_ := Aside0.mk (R_as (ok := (fun k_ => ((up b 9) 2 = true → (up b 9) 5 = false → some k_ ≠ (v209 : Value).ownBlock) ∧ ((up b 9) 5 = true → some k_ ≠ (v212 : Value).ownBlock) ∧ ((up b 9) 10 = true → (up b 9) 13 = false → some k_ ≠ (v221 : Value).ownBlock) ∧ ((up b 9) 13 = true → some k_ ≠ (v224 : Value).ownBlock) ∧ ((up b 9) 14 = true → (up b 9) 17 = false → some k_ ≠ (v227 : Value).ownBlock) ∧ ((up b 9) 17 = true → some k_ ≠ (v230 : Value).ownBlock))) ho (fun k_ hk => ⟨fun h0_ h1_ => (hat.elim (fun e1_ => (K_HO216.out.1 k_ (e1_ ▸ hk)).1 h0_ h1_) (fun ⟨b1_, e1_, e2_⟩ e_ => by have l1_ := Kd.R_lt (Q_HO210 h0_ h1_) k_ e_.symm; rw [e1_] at hk; cases hk; omega)), fun h0_ => (hat.elim (fun e1_ => (K_HO216.out.1 k_ (e1_ ▸ hk)).2.1 h0_) (fun ⟨b1_, e1_, e2_⟩ e_ => by have l1_ := Kd.R_lt (Q_HO213 h0_) k_ e_.symm; rw [e1_] at hk; cases hk; omega)), fun h0_ h1_ => (hat.elim (fun e1_ => (K_HO216.out.1 k_ (e1_ ▸ hk)).2.2.1 h0_ h1_) (fun ⟨b1_, e1_, e2_⟩ e_ => by have l1_ := Kd.R_lt (Q_HO222 h0_ h1_) k_ e_.symm; rw [e1_] at hk; cases hk; omega)), fun h0_ => (hat.elim (fun e1_ => (K_HO216.out.1 k_ (e1_ ▸ hk)).2.2.2.1 h0_) (fun ⟨b1_, e1_, e2_⟩ e_ => by have l1_ := Kd.R_lt (Q_HO225 h0_) k_ e_.symm; rw [e1_] at hk; cases hk; omega)), fun h0_ h1_ => (hat.elim (fun e1_ => (K_HO216.out.1 k_ (e1_ ▸ hk)).2.2.2.2.1 h0_ h1_) (fun ⟨b1_, e1_, e2_⟩ e_ => by have l1_ := Kd.R_lt (Q_HO228 h0_ h1_) k_ e_.symm; rw [e1_] at hk; cases hk; omega)), fun h0_ => (hat.elim (fun e1_ => (K_HO216.out.1 k_ (e1_ ▸ hk)).2.2.2.2.2 h0_) (fun ⟨b1_, e1_, e2_⟩ e_ => by have l1_ := Kd.R_lt (Q_HO231 h0_) k_ e_.symm; rw [e1_] at hk; cases hk; omega))⟩))
    have n0_ := Aside0.mk (blk_grown (g := gb206) (o := .cells #[.int .i64 a0_0, .slice A0_1 l0_1.length c0_1, .slice A0_2 l0_2.length c0_2, .slice A0_3 l0_3.length c0_3, .slice A0_4 l0_4.length c0_4, .slice A0_5 l0_5.length c0_5] 33 (0, 0)) (by exact BK206.out) hg (Kd.R_ne HO216.out BK206.out (by decide)))
    have n1_ := Aside0.mk (blk_grown (g := gb207) (o := .cells #[.int .i64 0, .slice none 0 0, .slice none 0 0, .slice none 0 0, .slice none 0 0, .slice none 0 0] 33 (0, 0)) (by exact BK207.out) hg (Kd.R_ne HO216.out BK207.out (by decide)))
    have n2_ := Aside0.mk (Kd.R_mono (ok' := (fun k_ => ((up b 9) 6 = true → (up b 9) 9 = false → some k_ ≠ (v215 : Value).ownBlock) ∧ ((up b 9) 9 = true → some k_ ≠ (v218 : Value).ownBlock) ∧ ((up b 9) 10 = true → (up b 9) 13 = false → some k_ ≠ (v221 : Value).ownBlock) ∧ ((up b 9) 13 = true → some k_ ≠ (v224 : Value).ownBlock) ∧ ((up b 9) 14 = true → (up b 9) 17 = false → some k_ ≠ (v227 : Value).ownBlock) ∧ ((up b 9) 17 = true → some k_ ≠ (v230 : Value).ownBlock))) (Kd.R_after (ok := (fun k_ => ((b) 10 = true → (b) 13 = false → some k_ ≠ (v221 : Value).ownBlock) ∧ ((b) 13 = true → some k_ ≠ (v224 : Value).ownBlock) ∧ ((b) 14 = true → (b) 17 = false → some k_ ≠ (v227 : Value).ownBlock) ∧ ((b) 17 = true → some k_ ≠ (v230 : Value).ownBlock))) (Kd.R_mono HO213.out (fun k_ hk => ⟨⟨hk.2.2.1, hk.2.2.2.1, hk.2.2.2.2.1, hk.2.2.2.2.2⟩, (hk.1) (hon 6 (by kernel_rfl)) hb_⟩)) hg hat) (fun k_ hk => ⟨fun _ h2_ => absurd ((up_self b 9).symm.trans h2_) (by decide), fun _ => hk.2, hk.1.1, hk.1.2.1, hk.1.2.2.1, hk.1.2.2.2⟩))
    have n3_ := Aside0.mk (hb)
    have n4_ := Aside0.mk (ho)
    have z_HO222 := fun (h0_ : b 10 = true) (h1_ : b 13 = false) => (show Kd.R (Kd.int .i64) 3 w15 w.heap.size (fun k_ => ((up b 9) 2 = true → (up b 9) 5 = false → some k_ ≠ (v209 : Value).ownBlock) ∧ ((up b 9) 5 = true → some k_ ≠ (v212 : Value).ownBlock) ∧ ((up b 9) 6 = true → (up b 9) 9 = false → some k_ ≠ (v215 : Value).ownBlock) ∧ ((up b 9) 9 = true → some k_ ≠ (v218 : Value).ownBlock) ∧ ((up b 9) 14 = true → (up b 9) 17 = false → some k_ ≠ (v227 : Value).ownBlock) ∧ ((up b 9) 17 = true → some k_ ≠ (v230 : Value).ownBlock)) v221 y220 from Kd.R_mono (Kd.R_after (ok := (fun k_ => ((b) 2 = true → (b) 5 = false → some k_ ≠ (v209 : Value).ownBlock) ∧ ((b) 5 = true → some k_ ≠ (v212 : Value).ownBlock) ∧ ((b) 14 = true → (b) 17 = false → some k_ ≠ (v227 : Value).ownBlock) ∧ ((b) 17 = true → some k_ ≠ (v230 : Value).ownBlock))) (Kd.R_mono (Q_HO222 h0_ h1_) (fun k_ hk => ⟨⟨hk.1, hk.2.1, hk.2.2.2.2.1, hk.2.2.2.2.2⟩, (hk.2.2.1) (hon 6 (by kernel_rfl)) hb_⟩)) hg hat) (fun k_ hk => ⟨hk.1.1, hk.1.2.1, fun _ h2_ => absurd ((up_self b 9).symm.trans h2_) (by decide), fun _ => hk.2, hk.1.2.2.1, hk.1.2.2.2⟩))
    have z_HO228 := fun (h0_ : b 14 = true) (h1_ : b 17 = false) => (show Kd.R (Kd.int .i64) 3 w15 w.heap.size (fun k_ => ((up b 9) 2 = true → (up b 9) 5 = false → some k_ ≠ (v209 : Value).ownBlock) ∧ ((up b 9) 5 = true → some k_ ≠ (v212 : Value).ownBlock) ∧ ((up b 9) 6 = true → (up b 9) 9 = false → some k_ ≠ (v215 : Value).ownBlock) ∧ ((up b 9) 9 = true → some k_ ≠ (v218 : Value).ownBlock) ∧ ((up b 9) 10 = true → (up b 9) 13 = false → some k_ ≠ (v221 : Value).ownBlock) ∧ ((up b 9) 13 = true → some k_ ≠ (v224 : Value).ownBlock)) v227 y226 from Kd.R_mono (Kd.R_after (ok := (fun k_ => ((b) 2 = true → (b) 5 = false → some k_ ≠ (v209 : Value).ownBlock) ∧ ((b) 5 = true → some k_ ≠ (v212 : Value).ownBlock) ∧ ((b) 10 = true → (b) 13 = false → some k_ ≠ (v221 : Value).ownBlock) ∧ ((b) 13 = true → some k_ ≠ (v224 : Value).ownBlock))) (Kd.R_mono (Q_HO228 h0_ h1_) (fun k_ hk => ⟨⟨hk.1, hk.2.1, hk.2.2.2.2.1, hk.2.2.2.2.2⟩, (hk.2.2.1) (hon 6 (by kernel_rfl)) hb_⟩)) hg hat) (fun k_ hk => ⟨hk.1.1, hk.1.2.1, fun _ h2_ => absurd ((up_self b 9).symm.trans h2_) (by decide), fun _ => hk.2, hk.1.2.2.1, hk.1.2.2.2⟩))
    have z_BK232 := fun (h0_ : b 19 = true) (h1_ : b 20 = false) => (show w15.heap[gb232]? = some (.cells #[.int .i64 0, .slice none 0 0, .slice none 0 0, .slice none 0 0, .slice none 0 0, .slice none 0 0] 33 (0, 0)) from by exact (blk_grown (g := gb232) (o := .cells #[.int .i64 0, .slice none 0 0, .slice none 0 0, .slice none 0 0, .slice none 0 0, .slice none 0 0] 33 (0, 0)) (by exact (Q_BK232 h0_ h1_)) hg (Kd.R_ne HO216.out (Q_BK232 h0_ h1_) (by decide))))
    clear BK206 BK207 HO213 HB HO216
    have BK206 := n0_
    have BK207 := n1_
    have HO213 := n2_
    have HB := n3_
    have HO219 := n4_
    clear n0_ n1_ n2_ n3_ n4_ ho hb hg hat
    refine hK.out _ _ ⟨v209, v212, v215, v218, v221, v224, v227, v230, gb232, m18_, m19_, (by rw [ha.out]; exact putSel_upk 6 hb_ rfl rfl rfl), (by exact BK206.out), (by exact BK207.out), (HB.out), fun _ h1_ => absurd ((hon 5 (by kernel_rfl)).symm.trans h1_) (by decide), fun _ => (by exact HO213.out), fun _ h1_ => absurd ((up_self b 9).symm.trans h1_) (by decide), fun _ => (by exact NX_.out), z_HO222, fun h0_ => absurd ((hoff 13 (by kernel_rfl)).symm.trans h0_) (by decide), z_HO228, fun h0_ => absurd ((hoff 17 (by kernel_rfl)).symm.trans h0_) (by decide), z_BK232, Q_GW232, Q_GE232, Q_NB206_232, Q_NB232_206, Q_NB207_232, Q_NB232_207, fun h0_ => absurd ((hoff 20 (by kernel_rfl)).symm.trans h0_) (by decide), fun h0_ => absurd ((hoff 18 (by kernel_rfl)).symm.trans h0_) (by decide), Q_X19_⟩
   refine steps_cons ?_ ?_
   ·rintro b a w' ⟨v209, v212, v215, v218, v221, v224, v227, v230, gb232, m18_, m19_, ha, Q_BK206, Q_BK207, Q_HB, Q_HO210, Q_HO213, Q_HO216, Q_HO219, Q_HO222, Q_HO225, Q_HO228, Q_HO231, Q_BK232, Q_GW232, Q_GE232, Q_NB206_232, Q_NB232_206, Q_NB207_232, Q_NB232_207, Q_BK232_e20, Q_X18_, Q_X19_⟩ hb_ hon hoff
    refine ⟨_, rfl, fun K hK => ?_⟩
    replace ha := Aside0.mk ha
    have BK206 := Aside0.mk Q_BK206
    have BK207 := Aside0.mk Q_BK207
    have HB := Aside0.mk Q_HB
    refine Kd.R_lit_step (Kd.int .i64) _ 3 ?hg (N := 15) ?hd (xs := ([] : List Int)) (inner := []) (ok := fun _ => True) (okp := fun _ => True) ?hr ?hp (fun _ hk => hk) trivial (Below.refl _ _) (Nat.le_refl _) (by simp) ?_; (case hd => rfl); (case hg => rfl); (case hr => (go_simp; done)); (case hp => exact (Reps.none _ _))
    intro v221 w9 ho10 hb hg_ hnew_
    clear hg_ hnew_
    (rw [← Ny220.out] at ho10)
    have n0_ := Aside0.mk (Kd.R_lower ho10 (below_size (HB.out)))
    have NX_ := Aside0.mk (R_as (ok := (fun k_ => ((up b 10) 2 = true → (up b 10) 5 = false → some k_ ≠ (v209 : Value).ownBlock) ∧ ((up b 10) 5 = true → some k_ ≠ (v212 : Value).ownBlock) ∧ ((up b 10) 6 = true → (up b 10) 9 = false → some k_ ≠ (v215 : Value).ownBlock) ∧ ((up b 10) 9 = true → some k_ ≠ (v218 : Value).ownBlock) ∧ ((up b 10) 14 = true → (up b 10) 17 = false → some k_ ≠ (v227 : Value).ownBlock) ∧ ((up b 10) 17 = true → some k_ ≠ (v230 : Value).ownBlock))) n0_.out (fun k_ hk => ⟨fun h0_ h1_ => (by intro e_; have l1_ := Kd.R_lt (Q_HO210 h0_ h1_) k_ e_.symm; have l2_ := Kd.R_base ho10 k_ hk; omega), fun h0_ => (by intro e_; have l1_ := Kd.R_lt (Q_HO213 h0_) k_ e_.symm; have l2_ := Kd.R_base ho10 k_ hk; omega), fun h0_ h1_ => (by intro e_; have l1_ := Kd.R_lt (Q_HO216 h0_ h1_) k_ e_.symm; have l2_ := Kd.R_base ho10 k_ hk; omega), fun h0_ => (by intro e_; have l1_ := Kd.R_lt (Q_HO219 h0_) k_ e_.symm; have l2_ := Kd.R_base ho10 k_ hk; omega), fun h0_ h1_ => (by intro e_; have l1_ := Kd.R_lt (Q_HO228 h0_ h1_) k_ e_.symm; have l2_ := Kd.R_base ho10 k_ hk; omega), fun h0_ => (by intro e_; have l1_ := Kd.R_lt (Q_HO231 h0_) k_ e_.symm; have l2_ := Kd.R_base ho10 k_ hk; omega)⟩))
    have n1_ := Aside0.mk (blk_below (g := gb206) (o := .cells #[.int .i64 a0_0, .slice A0_1 l0_1.length c0_1, .slice A0_2 l0_2.length c0_2, .slice A0_3 l0_3.length c0_3, .slice A0_4 l0_4.length c0_4, .slice A0_5 l0_5.length c0_5] 33 (0, 0)) (by exact BK206.out) hb)
    have n2_ := Aside0.mk (blk_below (g := gb207) (o := .cells #[.int .i64 0, .slice none 0 0, .slice none 0 0, .slice none 0 0, .slice none 0 0, .slice none 0 0] 33 (0, 0)) (by exact BK207.out) hb)
    have n3_ := Aside0.mk (below_step (HB.out) hb)
    have z_HO210 := fun (h0_ : b 2 = true) (h1_ : b 5 = false) => (show Kd.R (Kd.int .i64) 3 w9 w.heap.size (fun k_ => ((up b 10) 6 = true → (up b 10) 9 = false → some k_ ≠ (v215 : Value).ownBlock) ∧ ((up b 10) 9 = true → some k_ ≠ (v218 : Value).ownBlock) ∧ ((up b 10) 10 = true → (up b 10) 13 = false → some k_ ≠ (v221 : Value).ownBlock) ∧ ((up b 10) 13 = true → some k_ ≠ (v224 : Value).ownBlock) ∧ ((up b 10) 14 = true → (up b 10) 17 = false → some k_ ≠ (v227 : Value).ownBlock) ∧ ((up b 10) 17 = true → some k_ ≠ (v230 : Value).ownBlock)) v209 y208 from Kd.R_mono (Kd.R_elder' (Q_HO210 h0_ h1_) (Kd.R_base ho10) hb) (fun k_ hk => ⟨hk.1.1, hk.1.2.1, fun _ _ => hk.2, fun h2_ => absurd ((hoff 13 (by kernel_rfl)).symm.trans h2_) (by decide), hk.1.2.2.2.2.1, hk.1.2.2.2.2.2⟩))
    have z_HO213 := fun (h0_ : b 5 = true) => (show Kd.R (Kd.int .i64) 3 w9 w.heap.size (fun k_ => ((up b 10) 6 = true → (up b 10) 9 = false → some k_ ≠ (v215 : Value).ownBlock) ∧ ((up b 10) 9 = true → some k_ ≠ (v218 : Value).ownBlock) ∧ ((up b 10) 10 = true → (up b 10) 13 = false → some k_ ≠ (v221 : Value).ownBlock) ∧ ((up b 10) 13 = true → some k_ ≠ (v224 : Value).ownBlock) ∧ ((up b 10) 14 = true → (up b 10) 17 = false → some k_ ≠ (v227 : Value).ownBlock) ∧ ((up b 10) 17 = true → some k_ ≠ (v230 : Value).ownBlock)) v212 y211 from Kd.R_mono (Kd.R_elder' (Q_HO213 h0_) (Kd.R_base ho10) hb) (fun k_ hk => ⟨hk.1.1, hk.1.2.1, fun _ _ => hk.2, fun h2_ => absurd ((hoff 13 (by kernel_rfl)).symm.trans h2_) (by decide), hk.1.2.2.2.2.1, hk.1.2.2.2.2.2⟩))
    have z_HO216 := fun (h0_ : b 6 = true) (h1_ : b 9 = false) => (show Kd.R (Kd.int .i64) 3 w9 w.heap.size (fun k_ => ((up b 10) 2 = true → (up b 10) 5 = false → some k_ ≠ (v209 : Value).ownBlock) ∧ ((up b 10) 5 = true → some k_ ≠ (v212 : Value).ownBlock) ∧ ((up b 10) 10 = true → (up b 10) 13 = false → some k_ ≠ (v221 : Value).ownBlock) ∧ ((up b 10) 13 = true → some k_ ≠ (v224 : Value).ownBlock) ∧ ((up b 10) 14 = true → (up b 10) 17 = false → some k_ ≠ (v227 : Value).ownBlock) ∧ ((up b 10) 17 = true → some k_ ≠ (v230 : Value).ownBlock)) v215 y214 from Kd.R_mono (Kd.R_elder' (Q_HO216 h0_ h1_) (Kd.R_base ho10) hb) (fun k_ hk => ⟨hk.1.1, hk.1.2.1, fun _ _ => hk.2, fun h2_ => absurd ((hoff 13 (by kernel_rfl)).symm.trans h2_) (by decide), hk.1.2.2.2.2.1, hk.1.2.2.2.2.2⟩))
    have z_HO219 := fun (h0_ : b 9 = true) => (show Kd.R (Kd.int .i64) 3 w9 w.heap.size (fun k_ => ((up b 10) 2 = true → (up b 10) 5 = false → some k_ ≠ (v209 : Value).ownBlock) ∧ ((up b 10) 5 = true → some k_ ≠ (v212 : Value).ownBlock) ∧ ((up b 10) 10 = true → (up b 10) 13 = false → some k_ ≠ (v221 : Value).ownBlock) ∧ ((up b 10) 13 = true → some k_ ≠ (v224 : Value).ownBlock) ∧ ((up b 10) 14 = true → (up b 10) 17 = false → some k_ ≠ (v227 : Value).ownBlock) ∧ ((up b 10) 17 = true → some k_ ≠ (v230 : Value).ownBlock)) v218 y217 from Kd.R_mono (Kd.R_elder' (Q_HO219 h0_) (Kd.R_base ho10) hb) (fun k_ hk => ⟨hk.1.1, hk.1.2.1, fun _ _ => hk.2, fun h2_ => absurd ((hoff 13 (by kernel_rfl)).symm.trans h2_) (by decide), hk.1.2.2.2.2.1, hk.1.2.2.2.2.2⟩))
    have z_HO228 := fun (h0_ : b 14 = true) (h1_ : b 17 = false) => (show Kd.R (Kd.int .i64) 3 w9 w.heap.size (fun k_ => ((up b 10) 2 = true → (up b 10) 5 = false → some k_ ≠ (v209 : Value).ownBlock) ∧ ((up b 10) 5 = true → some k_ ≠ (v212 : Value).ownBlock) ∧ ((up b 10) 6 = true → (up b 10) 9 = false → some k_ ≠ (v215 : Value).ownBlock) ∧ ((up b 10) 9 = true → some k_ ≠ (v218 : Value).ownBlock) ∧ ((up b 10) 10 = true → (up b 10) 13 = false → some k_ ≠ (v221 : Value).ownBlock) ∧ ((up b 10) 13 = true → some k_ ≠ (v224 : Value).ownBlock)) v227 y226 from Kd.R_mono (Kd.R_elder' (Q_HO228 h0_ h1_) (Kd.R_base ho10) hb) (fun k_ hk => ⟨hk.1.1, hk.1.2.1, hk.1.2.2.1, hk.1.2.2.2.1, fun _ _ => hk.2, fun h2_ => absurd ((hoff 13 (by kernel_rfl)).symm.trans h2_) (by decide)⟩))
    have z_BK232 := fun (h0_ : b 19 = true) (h1_ : b 20 = false) => (show w9.heap[gb232]? = some (.cells #[.int .i64 0, .slice none 0 0, .slice none 0 0, .slice none 0 0, .slice none 0 0, .slice none 0 0] 33 (0, 0)) from by exact (blk_below (g := gb232) (o := .cells #[.int .i64 0, .slice none 0 0, .slice none 0 0, .slice none 0 0, .slice none 0 0, .slice none 0 0] 33 (0, 0)) (by exact (Q_BK232 h0_ h1_)) hb))
    clear BK206 BK207 HB
    have HO222 := n0_
    have BK206 := n1_
    have BK207 := n2_
    have HB := n3_
    clear n0_ n1_ n2_ n3_ hb ho10
    refine hK.out _ _ ⟨v209, v212, v215, v218, v221, v224, v227, v230, gb232, m18_, m19_, (by rw [ha.out]; exact putSel_upk 7 hb_ rfl rfl rfl), (by exact BK206.out), (by exact BK207.out), (HB.out), z_HO210, z_HO213, z_HO216, z_HO219, fun _ _ => (by exact NX_.out), fun h0_ => absurd ((hoff 13 (by kernel_rfl)).symm.trans h0_) (by decide), z_HO228, fun h0_ => absurd ((hoff 17 (by kernel_rfl)).symm.trans h0_) (by decide), z_BK232, Q_GW232, Q_GE232, Q_NB206_232, Q_NB232_206, Q_NB207_232, Q_NB232_207, fun h0_ => absurd ((hoff 20 (by kernel_rfl)).symm.trans h0_) (by decide), fun h0_ => absurd ((hoff 18 (by kernel_rfl)).symm.trans h0_) (by decide), Q_X19_⟩
   refine steps_cons ?_ ?_
   ·rintro b a w' ⟨v209, v212, v215, v218, v221, v224, v227, v230, gb232, m18_, m19_, ha, Q_BK206, Q_BK207, Q_HB, Q_HO210, Q_HO213, Q_HO216, Q_HO219, Q_HO222, Q_HO225, Q_HO228, Q_HO231, Q_BK232, Q_GW232, Q_GE232, Q_NB206_232, Q_NB232_206, Q_NB207_232, Q_NB232_207, Q_BK232_e20, Q_X18_, Q_X19_⟩ hb_ hon hoff
    refine ⟨_, rfl, fun K hK => ?_⟩
    have e16 : a.tmps[16]? = some (.pointer (some ⟨gb206, 4, none⟩)) := by rw [ha]; exact (putSel_off rfl).trans rfl
    replace ha := Aside0.mk ha
    have BK206 := Aside0.mk Q_BK206
    have BK207 := Aside0.mk Q_BK207
    have HB := Aside0.mk Q_HB
    have hc0_ : w'.cell? ⟨gb206, 0, none⟩ = some (.int .i64 a0_0) := (blk_cell BK206.out 0).trans rfl
    have hc1_ : w'.cell? ⟨gb206, 1, none⟩ = some (.slice A0_1 l0_1.length c0_1) := (blk_cell BK206.out 1).trans rfl
    have hc2_ : w'.cell? ⟨gb206, 2, none⟩ = some (.slice A0_2 l0_2.length c0_2) := (blk_cell BK206.out 2).trans rfl
    have hc3_ : w'.cell? ⟨gb206, 3, none⟩ = some (.slice A0_3 l0_3.length c0_3) := (blk_cell BK206.out 3).trans rfl
    have hc4_ : w'.cell? ⟨gb206, 4, none⟩ = some (.slice A0_4 l0_4.length c0_4) := (blk_cell BK206.out 4).trans rfl
    have hc5_ : w'.cell? ⟨gb206, 5, none⟩ = some (.slice A0_5 l0_5.length c0_5) := (blk_cell BK206.out 5).trans rfl
    refine value_ (w1 := w') (v := .slice A0_4 l0_4.length c0_4) (by rfl) rfl ?_ ?_
    ·go_simp
    refine hK.out _ _ ⟨v209, v212, v215, v218, v221, v224, v227, v230, gb232, m18_, m19_, (by rw [ha.out]; exact putSel_upk 8 hb_ rfl rfl rfl), Q_BK206, Q_BK207, Q_HB, Q_HO210, Q_HO213, Q_HO216, Q_HO219, Q_HO222, fun h0_ => absurd ((hoff 13 (by kernel_rfl)).symm.trans h0_) (by decide), Q_HO228, fun h0_ => absurd ((hoff 17 (by kernel_rfl)).symm.trans h0_) (by decide), Q_BK232, Q_GW232, Q_GE232, Q_NB206_232, Q_NB232_206, Q_NB207_232, Q_NB232_207, fun h0_ => absurd ((hoff 20 (by kernel_rfl)).symm.trans h0_) (by decide), fun h0_ => absurd ((hoff 18 (by kernel_rfl)).symm.trans h0_) (by decide), Q_X19_⟩
   refine steps_cons ?_ ?_
   ·rintro b a w' ⟨v209, v212, v215, v218, v221, v224, v227, v230, gb232, m18_, m19_, ha, Q_BK206, Q_BK207, Q_HB, Q_HO210, Q_HO213, Q_HO216, Q_HO219, Q_HO222, Q_HO225, Q_HO228, Q_HO231, Q_BK232, Q_GW232, Q_GE232, Q_NB206_232, Q_NB232_206, Q_NB207_232, Q_NB232_207, Q_BK232_e20, Q_X18_, Q_X19_⟩ hb_ hon hoff
    refine ⟨_, rfl, fun K hK => ?_⟩
    have e15 : a.tmps[15]? = some (v221) := by rw [ha]; exact putSel_on (e := (10, 15, v221)) 7 rfl rfl (hon 10 (by kernel_rfl)) rfl
    have e17 : a.tmps[17]? = some (.slice A0_4 l0_4.length c0_4) := by rw [ha]; exact putSel_on (e := (12, 17, .slice A0_4 l0_4.length c0_4)) 8 rfl rfl (hon 12 (by kernel_rfl)) rfl
    replace ha := Aside0.mk ha
    have BK206 := Aside0.mk Q_BK206
    have BK207 := Aside0.mk Q_BK207
    have HB := Aside0.mk Q_HB
    have HO213 := Aside0.mk (Q_HO213 (hon 5 (by kernel_rfl)))
    have HO219 := Aside0.mk (Q_HO219 (hon 9 (by kernel_rfl)))
    have K_HO222 := Aside0.mk (Q_HO222 (hon 10 (by kernel_rfl)) hb_)
    have HO222 := Aside0.mk (Kd.R_mono K_HO222.out (ok' := fun _ => True) (fun _ _ => trivial))
    refine Kd.R_append_rows_step (Kd.int .i64) (w0 := w) w.heap.size (by rfl) (.tmp 15) (.tmp 17) 22 3 (.int .i64 0) 8 rfl Try.underlying22 info3 rfl (by decide) (by omega) v221 y220 l0_4 _ _ _ (fun _ => True) (fun _ => False) (by exact eval_of e15) (by exact eval_of e17) ?aO ?aR (fun _ _ h => h) (fun _ h => h.elim) ?aF ?aB ?aS ?aL ?_
    (case aR => repeat (exact (Kd.C_below HR0_4.out HB.out)))
    (case aB => exact (HB.out))
    (case aF => exact (fun _ _ => trivial))
    (case aO => exact HO222.out)
    (case aS => exact (below_size (HB.out)))
    (case aL => have := LMc4.out; omega)
    intro v224 w18 ho hb hg hat
    rw [← Ny223.out] at ho
    have NX_ := Aside0.mk (R_as (ok := (fun k_ => ((up b 13) 2 = true → (up b 13) 5 = false → some k_ ≠ (v209 : Value).ownBlock) ∧ ((up b 13) 5 = true → some k_ ≠ (v212 : Value).ownBlock) ∧ ((up b 13) 6 = true → (up b 13) 9 = false → some k_ ≠ (v215 : Value).ownBlock) ∧ ((up b 13) 9 = true → some k_ ≠ (v218 : Value).ownBlock) ∧ ((up b 13) 14 = true → (up b 13) 17 = false → some k_ ≠ (v227 : Value).ownBlock) ∧ ((up b 13) 17 = true → some k_ ≠ (v230 : Value).ownBlock))) ho (fun k_ hk => ⟨fun h0_ h1_ => (hat.elim (fun e1_ => (K_HO222.out.1 k_ (e1_ ▸ hk)).1 h0_ h1_) (fun ⟨b1_, e1_, e2_⟩ e_ => by have l1_ := Kd.R_lt (Q_HO210 h0_ h1_) k_ e_.symm; rw [e1_] at hk; cases hk; omega)), fun h0_ => (hat.elim (fun e1_ => (K_HO222.out.1 k_ (e1_ ▸ hk)).2.1 h0_) (fun ⟨b1_, e1_, e2_⟩ e_ => by have l1_ := Kd.R_lt (Q_HO213 h0_) k_ e_.symm; rw [e1_] at hk; cases hk; omega)), fun h0_ h1_ => (hat.elim (fun e1_ => (K_HO222.out.1 k_ (e1_ ▸ hk)).2.2.1 h0_ h1_) (fun ⟨b1_, e1_, e2_⟩ e_ => by have l1_ := Kd.R_lt (Q_HO216 h0_ h1_) k_ e_.symm; rw [e1_] at hk; cases hk; omega)), fun h0_ => (hat.elim (fun e1_ => (K_HO222.out.1 k_ (e1_ ▸ hk)).2.2.2.1 h0_) (fun ⟨b1_, e1_, e2_⟩ e_ => by have l1_ := Kd.R_lt (Q_HO219 h0_) k_ e_.symm; rw [e1_] at hk; cases hk; omega)), fun h0_ h1_ => (hat.elim (fun e1_ => (K_HO222.out.1 k_ (e1_ ▸ hk)).2.2.2.2.1 h0_ h1_) (fun ⟨b1_, e1_, e2_⟩ e_ => by have l1_ := Kd.R_lt (Q_HO228 h0_ h1_) k_ e_.symm; rw [e1_] at hk; cases hk; omega)), fun h0_ => (hat.elim (fun e1_ => (K_HO222.out.1 k_ (e1_ ▸ hk)).2.2.2.2.2 h0_) (fun ⟨b1_, e1_, e2_⟩ e_ => by have l1_ := Kd.R_lt (Q_HO231 h0_) k_ e_.symm; rw [e1_] at hk; cases hk; omega))⟩))
    have n0_ := Aside0.mk (blk_grown (g := gb206) (o := .cells #[.int .i64 a0_0, .slice A0_1 l0_1.length c0_1, .slice A0_2 l0_2.length c0_2, .slice A0_3 l0_3.length c0_3, .slice A0_4 l0_4.length c0_4, .slice A0_5 l0_5.length c0_5] 33 (0, 0)) (by exact BK206.out) hg (Kd.R_ne HO222.out BK206.out (by decide)))
    have n1_ := Aside0.mk (blk_grown (g := gb207) (o := .cells #[.int .i64 0, .slice none 0 0, .slice none 0 0, .slice none 0 0, .slice none 0 0, .slice none 0 0] 33 (0, 0)) (by exact BK207.out) hg (Kd.R_ne HO222.out BK207.out (by decide)))
    have n2_ := Aside0.mk (Kd.R_mono (ok' := (fun k_ => ((up b 13) 6 = true → (up b 13) 9 = false → some k_ ≠ (v215 : Value).ownBlock) ∧ ((up b 13) 9 = true → some k_ ≠ (v218 : Value).ownBlock) ∧ ((up b 13) 10 = true → (up b 13) 13 = false → some k_ ≠ (v221 : Value).ownBlock) ∧ ((up b 13) 13 = true → some k_ ≠ (v224 : Value).ownBlock) ∧ ((up b 13) 14 = true → (up b 13) 17 = false → some k_ ≠ (v227 : Value).ownBlock) ∧ ((up b 13) 17 = true → some k_ ≠ (v230 : Value).ownBlock))) (Kd.R_after (ok := (fun k_ => ((b) 6 = true → (b) 9 = false → some k_ ≠ (v215 : Value).ownBlock) ∧ ((b) 9 = true → some k_ ≠ (v218 : Value).ownBlock) ∧ ((b) 14 = true → (b) 17 = false → some k_ ≠ (v227 : Value).ownBlock) ∧ ((b) 17 = true → some k_ ≠ (v230 : Value).ownBlock))) (Kd.R_mono HO213.out (fun k_ hk => ⟨⟨hk.1, hk.2.1, hk.2.2.2.2.1, hk.2.2.2.2.2⟩, (hk.2.2.1) (hon 10 (by kernel_rfl)) hb_⟩)) hg hat) (fun k_ hk => ⟨hk.1.1, hk.1.2.1, fun _ h2_ => absurd ((up_self b 13).symm.trans h2_) (by decide), fun _ => hk.2, hk.1.2.2.1, hk.1.2.2.2⟩))
    have n3_ := Aside0.mk (Kd.R_mono (ok' := (fun k_ => ((up b 13) 2 = true → (up b 13) 5 = false → some k_ ≠ (v209 : Value).ownBlock) ∧ ((up b 13) 5 = true → some k_ ≠ (v212 : Value).ownBlock) ∧ ((up b 13) 10 = true → (up b 13) 13 = false → some k_ ≠ (v221 : Value).ownBlock) ∧ ((up b 13) 13 = true → some k_ ≠ (v224 : Value).ownBlock) ∧ ((up b 13) 14 = true → (up b 13) 17 = false → some k_ ≠ (v227 : Value).ownBlock) ∧ ((up b 13) 17 = true → some k_ ≠ (v230 : Value).ownBlock))) (Kd.R_after (ok := (fun k_ => ((b) 2 = true → (b) 5 = false → some k_ ≠ (v209 : Value).ownBlock) ∧ ((b) 5 = true → some k_ ≠ (v212 : Value).ownBlock) ∧ ((b) 14 = true → (b) 17 = false → some k_ ≠ (v227 : Value).ownBlock) ∧ ((b) 17 = true → some k_ ≠ (v230 : Value).ownBlock))) (Kd.R_mono HO219.out (fun k_ hk => ⟨⟨hk.1, hk.2.1, hk.2.2.2.2.1, hk.2.2.2.2.2⟩, (hk.2.2.1) (hon 10 (by kernel_rfl)) hb_⟩)) hg hat) (fun k_ hk => ⟨hk.1.1, hk.1.2.1, fun _ h2_ => absurd ((up_self b 13).symm.trans h2_) (by decide), fun _ => hk.2, hk.1.2.2.1, hk.1.2.2.2⟩))
    have n4_ := Aside0.mk (hb)
    have n5_ := Aside0.mk (ho)
    have z_HO228 := fun (h0_ : b 14 = true) (h1_ : b 17 = false) => (show Kd.R (Kd.int .i64) 3 w18 w.heap.size (fun k_ => ((up b 13) 2 = true → (up b 13) 5 = false → some k_ ≠ (v209 : Value).ownBlock) ∧ ((up b 13) 5 = true → some k_ ≠ (v212 : Value).ownBlock) ∧ ((up b 13) 6 = true → (up b 13) 9 = false → some k_ ≠ (v215 : Value).ownBlock) ∧ ((up b 13) 9 = true → some k_ ≠ (v218 : Value).ownBlock) ∧ ((up b 13) 10 = true → (up b 13) 13 = false → some k_ ≠ (v221 : Value).ownBlock) ∧ ((up b 13) 13 = true → some k_ ≠ (v224 : Value).ownBlock)) v227 y226 from Kd.R_mono (Kd.R_after (ok := (fun k_ => ((b) 2 = true → (b) 5 = false → some k_ ≠ (v209 : Value).ownBlock) ∧ ((b) 5 = true → some k_ ≠ (v212 : Value).ownBlock) ∧ ((b) 6 = true → (b) 9 = false → some k_ ≠ (v215 : Value).ownBlock) ∧ ((b) 9 = true → some k_ ≠ (v218 : Value).ownBlock))) (Kd.R_mono (Q_HO228 h0_ h1_) (fun k_ hk => ⟨⟨hk.1, hk.2.1, hk.2.2.1, hk.2.2.2.1⟩, (hk.2.2.2.2.1) (hon 10 (by kernel_rfl)) hb_⟩)) hg hat) (fun k_ hk => ⟨hk.1.1, hk.1.2.1, hk.1.2.2.1, hk.1.2.2.2, fun _ h2_ => absurd ((up_self b 13).symm.trans h2_) (by decide), fun _ => hk.2⟩))
    have z_BK232 := fun (h0_ : b 19 = true) (h1_ : b 20 = false) => (show w18.heap[gb232]? = some (.cells #[.int .i64 0, .slice none 0 0, .slice none 0 0, .slice none 0 0, .slice none 0 0, .slice none 0 0] 33 (0, 0)) from by exact (blk_grown (g := gb232) (o := .cells #[.int .i64 0, .slice none 0 0, .slice none 0 0, .slice none 0 0, .slice none 0 0, .slice none 0 0] 33 (0, 0)) (by exact (Q_BK232 h0_ h1_)) hg (Kd.R_ne HO222.out (Q_BK232 h0_ h1_) (by decide))))
    clear BK206 BK207 HO213 HO219 HB HO222
    have BK206 := n0_
    have BK207 := n1_
    have HO213 := n2_
    have HO219 := n3_
    have HB := n4_
    have HO225 := n5_
    clear n0_ n1_ n2_ n3_ n4_ n5_ ho hb hg hat
    refine hK.out _ _ ⟨v209, v212, v215, v218, v221, v224, v227, v230, gb232, m18_, m19_, (by rw [ha.out]; exact putSel_upk 9 hb_ rfl rfl rfl), (by exact BK206.out), (by exact BK207.out), (HB.out), fun _ h1_ => absurd ((hon 5 (by kernel_rfl)).symm.trans h1_) (by decide), fun _ => (by exact HO213.out), fun _ h1_ => absurd ((hon 9 (by kernel_rfl)).symm.trans h1_) (by decide), fun _ => (by exact HO219.out), fun _ h1_ => absurd ((up_self b 13).symm.trans h1_) (by decide), fun _ => (by exact NX_.out), z_HO228, fun h0_ => absurd ((hoff 17 (by kernel_rfl)).symm.trans h0_) (by decide), z_BK232, Q_GW232, Q_GE232, Q_NB206_232, Q_NB232_206, Q_NB207_232, Q_NB232_207, fun h0_ => absurd ((hoff 20 (by kernel_rfl)).symm.trans h0_) (by decide), fun h0_ => absurd ((hoff 18 (by kernel_rfl)).symm.trans h0_) (by decide), Q_X19_⟩
   refine steps_cons ?_ ?_
   ·rintro b a w' ⟨v209, v212, v215, v218, v221, v224, v227, v230, gb232, m18_, m19_, ha, Q_BK206, Q_BK207, Q_HB, Q_HO210, Q_HO213, Q_HO216, Q_HO219, Q_HO222, Q_HO225, Q_HO228, Q_HO231, Q_BK232, Q_GW232, Q_GE232, Q_NB206_232, Q_NB232_206, Q_NB207_232, Q_NB232_207, Q_BK232_e20, Q_X18_, Q_X19_⟩ hb_ hon hoff
    refine ⟨_, rfl, fun K hK => ?_⟩
    replace ha := Aside0.mk ha
    have BK206 := Aside0.mk Q_BK206
    have BK207 := Aside0.mk Q_BK207
    have HB := Aside0.mk Q_HB
    refine Kd.R_lit_step (Kd.int .i64) _ 3 ?hg (N := 19) ?hd (xs := ([] : List Int)) (inner := []) (ok := fun _ => True) (okp := fun _ => True) ?hr ?hp (fun _ hk => hk) trivial (Below.refl _ _) (Nat.le_refl _) (by simp) ?_; (case hd => rfl); (case hg => rfl); (case hr => (go_simp; done)); (case hp => exact (Reps.none _ _))
    intro v227 w9 ho10 hb hg_ hnew_
    clear hg_ hnew_
    (rw [← Ny226.out] at ho10)
    have n0_ := Aside0.mk (Kd.R_lower ho10 (below_size (HB.out)))
    have NX_ := Aside0.mk (R_as (ok := (fun k_ => ((up b 14) 2 = true → (up b 14) 5 = false → some k_ ≠ (v209 : Value).ownBlock) ∧ ((up b 14) 5 = true → some k_ ≠ (v212 : Value).ownBlock) ∧ ((up b 14) 6 = true → (up b 14) 9 = false → some k_ ≠ (v215 : Value).ownBlock) ∧ ((up b 14) 9 = true → some k_ ≠ (v218 : Value).ownBlock) ∧ ((up b 14) 10 = true → (up b 14) 13 = false → some k_ ≠ (v221 : Value).ownBlock) ∧ ((up b 14) 13 = true → some k_ ≠ (v224 : Value).ownBlock))) n0_.out (fun k_ hk => ⟨fun h0_ h1_ => (by intro e_; have l1_ := Kd.R_lt (Q_HO210 h0_ h1_) k_ e_.symm; have l2_ := Kd.R_base ho10 k_ hk; omega), fun h0_ => (by intro e_; have l1_ := Kd.R_lt (Q_HO213 h0_) k_ e_.symm; have l2_ := Kd.R_base ho10 k_ hk; omega), fun h0_ h1_ => (by intro e_; have l1_ := Kd.R_lt (Q_HO216 h0_ h1_) k_ e_.symm; have l2_ := Kd.R_base ho10 k_ hk; omega), fun h0_ => (by intro e_; have l1_ := Kd.R_lt (Q_HO219 h0_) k_ e_.symm; have l2_ := Kd.R_base ho10 k_ hk; omega), fun h0_ h1_ => (by intro e_; have l1_ := Kd.R_lt (Q_HO222 h0_ h1_) k_ e_.symm; have l2_ := Kd.R_base ho10 k_ hk; omega), fun h0_ => (by intro e_; have l1_ := Kd.R_lt (Q_HO225 h0_) k_ e_.symm; have l2_ := Kd.R_base ho10 k_ hk; omega)⟩))
    have n1_ := Aside0.mk (blk_below (g := gb206) (o := .cells #[.int .i64 a0_0, .slice A0_1 l0_1.length c0_1, .slice A0_2 l0_2.length c0_2, .slice A0_3 l0_3.length c0_3, .slice A0_4 l0_4.length c0_4, .slice A0_5 l0_5.length c0_5] 33 (0, 0)) (by exact BK206.out) hb)
    have n2_ := Aside0.mk (blk_below (g := gb207) (o := .cells #[.int .i64 0, .slice none 0 0, .slice none 0 0, .slice none 0 0, .slice none 0 0, .slice none 0 0] 33 (0, 0)) (by exact BK207.out) hb)
    have n3_ := Aside0.mk (below_step (HB.out) hb)
    have z_HO210 := fun (h0_ : b 2 = true) (h1_ : b 5 = false) => (show Kd.R (Kd.int .i64) 3 w9 w.heap.size (fun k_ => ((up b 14) 6 = true → (up b 14) 9 = false → some k_ ≠ (v215 : Value).ownBlock) ∧ ((up b 14) 9 = true → some k_ ≠ (v218 : Value).ownBlock) ∧ ((up b 14) 10 = true → (up b 14) 13 = false → some k_ ≠ (v221 : Value).ownBlock) ∧ ((up b 14) 13 = true → some k_ ≠ (v224 : Value).ownBlock) ∧ ((up b 14) 14 = true → (up b 14) 17 = false → some k_ ≠ (v227 : Value).ownBlock) ∧ ((up b 14) 17 = true → some k_ ≠ (v230 : Value).ownBlock)) v209 y208 from Kd.R_mono (Kd.R_elder' (Q_HO210 h0_ h1_) (Kd.R_base ho10) hb) (fun k_ hk => ⟨hk.1.1, hk.1.2.1, hk.1.2.2.1, hk.1.2.2.2.1, fun _ _ => hk.2, fun h2_ => absurd ((hoff 17 (by kernel_rfl)).symm.trans h2_) (by decide)⟩))
    have z_HO213 := fun (h0_ : b 5 = true) => (show Kd.R (Kd.int .i64) 3 w9 w.heap.size (fun k_ => ((up b 14) 6 = true → (up b 14) 9 = false → some k_ ≠ (v215 : Value).ownBlock) ∧ ((up b 14) 9 = true → some k_ ≠ (v218 : Value).ownBlock) ∧ ((up b 14) 10 = true → (up b 14) 13 = false → some k_ ≠ (v221 : Value).ownBlock) ∧ ((up b 14) 13 = true → some k_ ≠ (v224 : Value).ownBlock) ∧ ((up b 14) 14 = true → (up b 14) 17 = false → some k_ ≠ (v227 : Value).ownBlock) ∧ ((up b 14) 17 = true → some k_ ≠ (v230 : Value).ownBlock)) v212 y211 from Kd.R_mono (Kd.R_elder' (Q_HO213 h0_) (Kd.R_base ho10) hb) (fun k_ hk => ⟨hk.1.1, hk.1.2.1, hk.1.2.2.1, hk.1.2.2.2.1, fun _ _ => hk.2, fun h2_ => absurd ((hoff 17 (by kernel_rfl)).symm.trans h2_) (by decide)⟩))
    have z_HO216 := fun (h0_ : b 6 = true) (h1_ : b 9 = false) => (show Kd.R (Kd.int .i64) 3 w9 w.heap.size (fun k_ => ((up b 14) 2 = true → (up b 14) 5 = false → some k_ ≠ (v209 : Value).ownBlock) ∧ ((up b 14) 5 = true → some k_ ≠ (v212 : Value).ownBlock) ∧ ((up b 14) 10 = true → (up b 14) 13 = false → some k_ ≠ (v221 : Value).ownBlock) ∧ ((up b 14) 13 = true → some k_ ≠ (v224 : Value).ownBlock) ∧ ((up b 14) 14 = true → (up b 14) 17 = false → some k_ ≠ (v227 : Value).ownBlock) ∧ ((up b 14) 17 = true → some k_ ≠ (v230 : Value).ownBlock)) v215 y214 from Kd.R_mono (Kd.R_elder' (Q_HO216 h0_ h1_) (Kd.R_base ho10) hb) (fun k_ hk => ⟨hk.1.1, hk.1.2.1, hk.1.2.2.1, hk.1.2.2.2.1, fun _ _ => hk.2, fun h2_ => absurd ((hoff 17 (by kernel_rfl)).symm.trans h2_) (by decide)⟩))
    have z_HO219 := fun (h0_ : b 9 = true) => (show Kd.R (Kd.int .i64) 3 w9 w.heap.size (fun k_ => ((up b 14) 2 = true → (up b 14) 5 = false → some k_ ≠ (v209 : Value).ownBlock) ∧ ((up b 14) 5 = true → some k_ ≠ (v212 : Value).ownBlock) ∧ ((up b 14) 10 = true → (up b 14) 13 = false → some k_ ≠ (v221 : Value).ownBlock) ∧ ((up b 14) 13 = true → some k_ ≠ (v224 : Value).ownBlock) ∧ ((up b 14) 14 = true → (up b 14) 17 = false → some k_ ≠ (v227 : Value).ownBlock) ∧ ((up b 14) 17 = true → some k_ ≠ (v230 : Value).ownBlock)) v218 y217 from Kd.R_mono (Kd.R_elder' (Q_HO219 h0_) (Kd.R_base ho10) hb) (fun k_ hk => ⟨hk.1.1, hk.1.2.1, hk.1.2.2.1, hk.1.2.2.2.1, fun _ _ => hk.2, fun h2_ => absurd ((hoff 17 (by kernel_rfl)).symm.trans h2_) (by decide)⟩))
    have z_HO222 := fun (h0_ : b 10 = true) (h1_ : b 13 = false) => (show Kd.R (Kd.int .i64) 3 w9 w.heap.size (fun k_ => ((up b 14) 2 = true → (up b 14) 5 = false → some k_ ≠ (v209 : Value).ownBlock) ∧ ((up b 14) 5 = true → some k_ ≠ (v212 : Value).ownBlock) ∧ ((up b 14) 6 = true → (up b 14) 9 = false → some k_ ≠ (v215 : Value).ownBlock) ∧ ((up b 14) 9 = true → some k_ ≠ (v218 : Value).ownBlock) ∧ ((up b 14) 14 = true → (up b 14) 17 = false → some k_ ≠ (v227 : Value).ownBlock) ∧ ((up b 14) 17 = true → some k_ ≠ (v230 : Value).ownBlock)) v221 y220 from Kd.R_mono (Kd.R_elder' (Q_HO222 h0_ h1_) (Kd.R_base ho10) hb) (fun k_ hk => ⟨hk.1.1, hk.1.2.1, hk.1.2.2.1, hk.1.2.2.2.1, fun _ _ => hk.2, fun h2_ => absurd ((hoff 17 (by kernel_rfl)).symm.trans h2_) (by decide)⟩))
    have z_HO225 := fun (h0_ : b 13 = true) => (show Kd.R (Kd.int .i64) 3 w9 w.heap.size (fun k_ => ((up b 14) 2 = true → (up b 14) 5 = false → some k_ ≠ (v209 : Value).ownBlock) ∧ ((up b 14) 5 = true → some k_ ≠ (v212 : Value).ownBlock) ∧ ((up b 14) 6 = true → (up b 14) 9 = false → some k_ ≠ (v215 : Value).ownBlock) ∧ ((up b 14) 9 = true → some k_ ≠ (v218 : Value).ownBlock) ∧ ((up b 14) 14 = true → (up b 14) 17 = false → some k_ ≠ (v227 : Value).ownBlock) ∧ ((up b 14) 17 = true → some k_ ≠ (v230 : Value).ownBlock)) v224 y223 from Kd.R_mono (Kd.R_elder' (Q_HO225 h0_) (Kd.R_base ho10) hb) (fun k_ hk => ⟨hk.1.1, hk.1.2.1, hk.1.2.2.1, hk.1.2.2.2.1, fun _ _ => hk.2, fun h2_ => absurd ((hoff 17 (by kernel_rfl)).symm.trans h2_) (by decide)⟩))
    have z_BK232 := fun (h0_ : b 19 = true) (h1_ : b 20 = false) => (show w9.heap[gb232]? = some (.cells #[.int .i64 0, .slice none 0 0, .slice none 0 0, .slice none 0 0, .slice none 0 0, .slice none 0 0] 33 (0, 0)) from by exact (blk_below (g := gb232) (o := .cells #[.int .i64 0, .slice none 0 0, .slice none 0 0, .slice none 0 0, .slice none 0 0, .slice none 0 0] 33 (0, 0)) (by exact (Q_BK232 h0_ h1_)) hb))
    clear BK206 BK207 HB
    have HO228 := n0_
    have BK206 := n1_
    have BK207 := n2_
    have HB := n3_
    clear n0_ n1_ n2_ n3_ hb ho10
    refine hK.out _ _ ⟨v209, v212, v215, v218, v221, v224, v227, v230, gb232, m18_, m19_, (by rw [ha.out]; exact putSel_upk 10 hb_ rfl rfl rfl), (by exact BK206.out), (by exact BK207.out), (HB.out), z_HO210, z_HO213, z_HO216, z_HO219, z_HO222, z_HO225, fun _ _ => (by exact NX_.out), fun h0_ => absurd ((hoff 17 (by kernel_rfl)).symm.trans h0_) (by decide), z_BK232, Q_GW232, Q_GE232, Q_NB206_232, Q_NB232_206, Q_NB207_232, Q_NB232_207, fun h0_ => absurd ((hoff 20 (by kernel_rfl)).symm.trans h0_) (by decide), fun h0_ => absurd ((hoff 18 (by kernel_rfl)).symm.trans h0_) (by decide), Q_X19_⟩
   refine steps_cons ?_ ?_
   ·rintro b a w' ⟨v209, v212, v215, v218, v221, v224, v227, v230, gb232, m18_, m19_, ha, Q_BK206, Q_BK207, Q_HB, Q_HO210, Q_HO213, Q_HO216, Q_HO219, Q_HO222, Q_HO225, Q_HO228, Q_HO231, Q_BK232, Q_GW232, Q_GE232, Q_NB206_232, Q_NB232_206, Q_NB207_232, Q_NB232_207, Q_BK232_e20, Q_X18_, Q_X19_⟩ hb_ hon hoff
    refine ⟨_, rfl, fun K hK => ?_⟩
    have e20 : a.tmps[20]? = some (.pointer (some ⟨gb206, 5, none⟩)) := by rw [ha]; exact (putSel_off rfl).trans rfl
    replace ha := Aside0.mk ha
    have BK206 := Aside0.mk Q_BK206
    have BK207 := Aside0.mk Q_BK207
    have HB := Aside0.mk Q_HB
    have hc0_ : w'.cell? ⟨gb206, 0, none⟩ = some (.int .i64 a0_0) := (blk_cell BK206.out 0).trans rfl
    have hc1_ : w'.cell? ⟨gb206, 1, none⟩ = some (.slice A0_1 l0_1.length c0_1) := (blk_cell BK206.out 1).trans rfl
    have hc2_ : w'.cell? ⟨gb206, 2, none⟩ = some (.slice A0_2 l0_2.length c0_2) := (blk_cell BK206.out 2).trans rfl
    have hc3_ : w'.cell? ⟨gb206, 3, none⟩ = some (.slice A0_3 l0_3.length c0_3) := (blk_cell BK206.out 3).trans rfl
    have hc4_ : w'.cell? ⟨gb206, 4, none⟩ = some (.slice A0_4 l0_4.length c0_4) := (blk_cell BK206.out 4).trans rfl
    have hc5_ : w'.cell? ⟨gb206, 5, none⟩ = some (.slice A0_5 l0_5.length c0_5) := (blk_cell BK206.out 5).trans rfl
    refine value_ (w1 := w') (v := .slice A0_5 l0_5.length c0_5) (by rfl) rfl ?_ ?_
    ·go_simp
    refine hK.out _ _ ⟨v209, v212, v215, v218, v221, v224, v227, v230, gb232, m18_, m19_, (by rw [ha.out]; exact putSel_upk 11 hb_ rfl rfl rfl), Q_BK206, Q_BK207, Q_HB, Q_HO210, Q_HO213, Q_HO216, Q_HO219, Q_HO222, Q_HO225, Q_HO228, fun h0_ => absurd ((hoff 17 (by kernel_rfl)).symm.trans h0_) (by decide), Q_BK232, Q_GW232, Q_GE232, Q_NB206_232, Q_NB232_206, Q_NB207_232, Q_NB232_207, fun h0_ => absurd ((hoff 20 (by kernel_rfl)).symm.trans h0_) (by decide), fun h0_ => absurd ((hoff 18 (by kernel_rfl)).symm.trans h0_) (by decide), Q_X19_⟩
   refine steps_cons ?_ ?_
   ·rintro b a w' ⟨v209, v212, v215, v218, v221, v224, v227, v230, gb232, m18_, m19_, ha, Q_BK206, Q_BK207, Q_HB, Q_HO210, Q_HO213, Q_HO216, Q_HO219, Q_HO222, Q_HO225, Q_HO228, Q_HO231, Q_BK232, Q_GW232, Q_GE232, Q_NB206_232, Q_NB232_206, Q_NB207_232, Q_NB232_207, Q_BK232_e20, Q_X18_, Q_X19_⟩ hb_ hon hoff
    refine ⟨_, rfl, fun K hK => ?_⟩
    have e19 : a.tmps[19]? = some (v227) := by rw [ha]; exact putSel_on (e := (14, 19, v227)) 10 rfl rfl (hon 14 (by kernel_rfl)) rfl
    have e21 : a.tmps[21]? = some (.slice A0_5 l0_5.length c0_5) := by rw [ha]; exact putSel_on (e := (16, 21, .slice A0_5 l0_5.length c0_5)) 11 rfl rfl (hon 16 (by kernel_rfl)) rfl
    replace ha := Aside0.mk ha
    have BK206 := Aside0.mk Q_BK206
    have BK207 := Aside0.mk Q_BK207
    have HB := Aside0.mk Q_HB
    have HO213 := Aside0.mk (Q_HO213 (hon 5 (by kernel_rfl)))
    have HO219 := Aside0.mk (Q_HO219 (hon 9 (by kernel_rfl)))
    have HO225 := Aside0.mk (Q_HO225 (hon 13 (by kernel_rfl)))
    have K_HO228 := Aside0.mk (Q_HO228 (hon 14 (by kernel_rfl)) hb_)
    have HO228 := Aside0.mk (Kd.R_mono K_HO228.out (ok' := fun _ => True) (fun _ _ => trivial))
    refine Kd.R_append_rows_step (Kd.int .i64) (w0 := w) w.heap.size (by rfl) (.tmp 19) (.tmp 21) 22 3 (.int .i64 0) 8 rfl Try.underlying22 info3 rfl (by decide) (by omega) v227 y226 l0_5 _ _ _ (fun _ => True) (fun _ => False) (by exact eval_of e19) (by exact eval_of e21) ?aO ?aR (fun _ _ h => h) (fun _ h => h.elim) ?aF ?aB ?aS ?aL ?_
    (case aR => repeat (exact (Kd.C_below HR0_5.out HB.out)))
    (case aB => exact (HB.out))
    (case aF => exact (fun _ _ => trivial))
    (case aO => exact HO228.out)
    (case aS => exact (below_size (HB.out)))
    (case aL => have := LMc5.out; omega)
    intro v230 w21 ho hb hg hat
    rw [← Ny229.out] at ho
    have NX_ := Aside0.mk (R_as (ok := (fun k_ => ((up b 17) 2 = true → (up b 17) 5 = false → some k_ ≠ (v209 : Value).ownBlock) ∧ ((up b 17) 5 = true → some k_ ≠ (v212 : Value).ownBlock) ∧ ((up b 17) 6 = true → (up b 17) 9 = false → some k_ ≠ (v215 : Value).ownBlock) ∧ ((up b 17) 9 = true → some k_ ≠ (v218 : Value).ownBlock) ∧ ((up b 17) 10 = true → (up b 17) 13 = false → some k_ ≠ (v221 : Value).ownBlock) ∧ ((up b 17) 13 = true → some k_ ≠ (v224 : Value).ownBlock))) ho (fun k_ hk => ⟨fun h0_ h1_ => (hat.elim (fun e1_ => (K_HO228.out.1 k_ (e1_ ▸ hk)).1 h0_ h1_) (fun ⟨b1_, e1_, e2_⟩ e_ => by have l1_ := Kd.R_lt (Q_HO210 h0_ h1_) k_ e_.symm; rw [e1_] at hk; cases hk; omega)), fun h0_ => (hat.elim (fun e1_ => (K_HO228.out.1 k_ (e1_ ▸ hk)).2.1 h0_) (fun ⟨b1_, e1_, e2_⟩ e_ => by have l1_ := Kd.R_lt (Q_HO213 h0_) k_ e_.symm; rw [e1_] at hk; cases hk; omega)), fun h0_ h1_ => (hat.elim (fun e1_ => (K_HO228.out.1 k_ (e1_ ▸ hk)).2.2.1 h0_ h1_) (fun ⟨b1_, e1_, e2_⟩ e_ => by have l1_ := Kd.R_lt (Q_HO216 h0_ h1_) k_ e_.symm; rw [e1_] at hk; cases hk; omega)), fun h0_ => (hat.elim (fun e1_ => (K_HO228.out.1 k_ (e1_ ▸ hk)).2.2.2.1 h0_) (fun ⟨b1_, e1_, e2_⟩ e_ => by have l1_ := Kd.R_lt (Q_HO219 h0_) k_ e_.symm; rw [e1_] at hk; cases hk; omega)), fun h0_ h1_ => (hat.elim (fun e1_ => (K_HO228.out.1 k_ (e1_ ▸ hk)).2.2.2.2.1 h0_ h1_) (fun ⟨b1_, e1_, e2_⟩ e_ => by have l1_ := Kd.R_lt (Q_HO222 h0_ h1_) k_ e_.symm; rw [e1_] at hk; cases hk; omega)), fun h0_ => (hat.elim (fun e1_ => (K_HO228.out.1 k_ (e1_ ▸ hk)).2.2.2.2.2 h0_) (fun ⟨b1_, e1_, e2_⟩ e_ => by have l1_ := Kd.R_lt (Q_HO225 h0_) k_ e_.symm; rw [e1_] at hk; cases hk; omega))⟩))
    have n0_ := Aside0.mk (blk_grown (g := gb206) (o := .cells #[.int .i64 a0_0, .slice A0_1 l0_1.length c0_1, .slice A0_2 l0_2.length c0_2, .slice A0_3 l0_3.length c0_3, .slice A0_4 l0_4.length c0_4, .slice A0_5 l0_5.length c0_5] 33 (0, 0)) (by exact BK206.out) hg (Kd.R_ne HO228.out BK206.out (by decide)))
    have n1_ := Aside0.mk (blk_grown (g := gb207) (o := .cells #[.int .i64 0, .slice none 0 0, .slice none 0 0, .slice none 0 0, .slice none 0 0, .slice none 0 0] 33 (0, 0)) (by exact BK207.out) hg (Kd.R_ne HO228.out BK207.out (by decide)))
    have n2_ := Aside0.mk (Kd.R_mono (ok' := (fun k_ => ((up b 17) 6 = true → (up b 17) 9 = false → some k_ ≠ (v215 : Value).ownBlock) ∧ ((up b 17) 9 = true → some k_ ≠ (v218 : Value).ownBlock) ∧ ((up b 17) 10 = true → (up b 17) 13 = false → some k_ ≠ (v221 : Value).ownBlock) ∧ ((up b 17) 13 = true → some k_ ≠ (v224 : Value).ownBlock) ∧ ((up b 17) 14 = true → (up b 17) 17 = false → some k_ ≠ (v227 : Value).ownBlock) ∧ ((up b 17) 17 = true → some k_ ≠ (v230 : Value).ownBlock))) (Kd.R_after (ok := (fun k_ => ((b) 6 = true → (b) 9 = false → some k_ ≠ (v215 : Value).ownBlock) ∧ ((b) 9 = true → some k_ ≠ (v218 : Value).ownBlock) ∧ ((b) 10 = true → (b) 13 = false → some k_ ≠ (v221 : Value).ownBlock) ∧ ((b) 13 = true → some k_ ≠ (v224 : Value).ownBlock))) (Kd.R_mono HO213.out (fun k_ hk => ⟨⟨hk.1, hk.2.1, hk.2.2.1, hk.2.2.2.1⟩, (hk.2.2.2.2.1) (hon 14 (by kernel_rfl)) hb_⟩)) hg hat) (fun k_ hk => ⟨hk.1.1, hk.1.2.1, hk.1.2.2.1, hk.1.2.2.2, fun _ h2_ => absurd ((up_self b 17).symm.trans h2_) (by decide), fun _ => hk.2⟩))
    have n3_ := Aside0.mk (Kd.R_mono (ok' := (fun k_ => ((up b 17) 2 = true → (up b 17) 5 = false → some k_ ≠ (v209 : Value).ownBlock) ∧ ((up b 17) 5 = true → some k_ ≠ (v212 : Value).ownBlock) ∧ ((up b 17) 10 = true → (up b 17) 13 = false → some k_ ≠ (v221 : Value).ownBlock) ∧ ((up b 17) 13 = true → some k_ ≠ (v224 : Value).ownBlock) ∧ ((up b 17) 14 = true → (up b 17) 17 = false → some k_ ≠ (v227 : Value).ownBlock) ∧ ((up b 17) 17 = true → some k_ ≠ (v230 : Value).ownBlock))) (Kd.R_after (ok := (fun k_ => ((b) 2 = true → (b) 5 = false → some k_ ≠ (v209 : Value).ownBlock) ∧ ((b) 5 = true → some k_ ≠ (v212 : Value).ownBlock) ∧ ((b) 10 = true → (b) 13 = false → some k_ ≠ (v221 : Value).ownBlock) ∧ ((b) 13 = true → some k_ ≠ (v224 : Value).ownBlock))) (Kd.R_mono HO219.out (fun k_ hk => ⟨⟨hk.1, hk.2.1, hk.2.2.1, hk.2.2.2.1⟩, (hk.2.2.2.2.1) (hon 14 (by kernel_rfl)) hb_⟩)) hg hat) (fun k_ hk => ⟨hk.1.1, hk.1.2.1, hk.1.2.2.1, hk.1.2.2.2, fun _ h2_ => absurd ((up_self b 17).symm.trans h2_) (by decide), fun _ => hk.2⟩))
    have n4_ := Aside0.mk (Kd.R_mono (ok' := (fun k_ => ((up b 17) 2 = true → (up b 17) 5 = false → some k_ ≠ (v209 : Value).ownBlock) ∧ ((up b 17) 5 = true → some k_ ≠ (v212 : Value).ownBlock) ∧ ((up b 17) 6 = true → (up b 17) 9 = false → some k_ ≠ (v215 : Value).ownBlock) ∧ ((up b 17) 9 = true → some k_ ≠ (v218 : Value).ownBlock) ∧ ((up b 17) 14 = true → (up b 17) 17 = false → some k_ ≠ (v227 : Value).ownBlock) ∧ ((up b 17) 17 = true → some k_ ≠ (v230 : Value).ownBlock))) (Kd.R_after (ok := (fun k_ => ((b) 2 = true → (b) 5 = false → some k_ ≠ (v209 : Value).ownBlock) ∧ ((b) 5 = true → some k_ ≠ (v212 : Value).ownBlock) ∧ ((b) 6 = true → (b) 9 = false → some k_ ≠ (v215 : Value).ownBlock) ∧ ((b) 9 = true → some k_ ≠ (v218 : Value).ownBlock))) (Kd.R_mono HO225.out (fun k_ hk => ⟨⟨hk.1, hk.2.1, hk.2.2.1, hk.2.2.2.1⟩, (hk.2.2.2.2.1) (hon 14 (by kernel_rfl)) hb_⟩)) hg hat) (fun k_ hk => ⟨hk.1.1, hk.1.2.1, hk.1.2.2.1, hk.1.2.2.2, fun _ h2_ => absurd ((up_self b 17).symm.trans h2_) (by decide), fun _ => hk.2⟩))
    have n5_ := Aside0.mk (hb)
    have n6_ := Aside0.mk (ho)
    have z_BK232 := fun (h0_ : b 19 = true) (h1_ : b 20 = false) => (show w21.heap[gb232]? = some (.cells #[.int .i64 0, .slice none 0 0, .slice none 0 0, .slice none 0 0, .slice none 0 0, .slice none 0 0] 33 (0, 0)) from by exact (blk_grown (g := gb232) (o := .cells #[.int .i64 0, .slice none 0 0, .slice none 0 0, .slice none 0 0, .slice none 0 0, .slice none 0 0] 33 (0, 0)) (by exact (Q_BK232 h0_ h1_)) hg (Kd.R_ne HO228.out (Q_BK232 h0_ h1_) (by decide))))
    clear BK206 BK207 HO213 HO219 HO225 HB HO228
    have BK206 := n0_
    have BK207 := n1_
    have HO213 := n2_
    have HO219 := n3_
    have HO225 := n4_
    have HB := n5_
    have HO231 := n6_
    clear n0_ n1_ n2_ n3_ n4_ n5_ n6_ ho hb hg hat
    obtain ⟨Ao22, co22, eo22⟩ := Kd.R_slice HO231.out
    (subst eo22)
    obtain ⟨Ao23, co23, eo23⟩ := Kd.R_slice HO225.out
    (subst eo23)
    obtain ⟨Ao24, co24, eo24⟩ := Kd.R_slice HO219.out
    (subst eo24)
    obtain ⟨Ao25, co25, eo25⟩ := Kd.R_slice HO213.out
    (subst eo25)
    refine hK.out _ _ ⟨v209, .slice Ao25 y211.length co25, v215, .slice Ao24 y217.length co24, v221, .slice Ao23 y223.length co23, v227, .slice Ao22 y229.length co22, gb232, m18_, m19_, (by rw [ha.out]; exact putSel_upk 12 hb_ rfl rfl rfl), (by exact BK206.out), (by exact BK207.out), (HB.out), fun _ h1_ => absurd ((hon 5 (by kernel_rfl)).symm.trans h1_) (by decide), fun _ => (by exact HO213.out), fun _ h1_ => absurd ((hon 9 (by kernel_rfl)).symm.trans h1_) (by decide), fun _ => (by exact HO219.out), fun _ h1_ => absurd ((hon 13 (by kernel_rfl)).symm.trans h1_) (by decide), fun _ => (by exact HO225.out), fun _ h1_ => absurd ((up_self b 17).symm.trans h1_) (by decide), fun _ => (by exact NX_.out), z_BK232, Q_GW232, Q_GE232, Q_NB206_232, Q_NB232_206, Q_NB207_232, Q_NB232_207, fun h0_ => absurd ((hoff 20 (by kernel_rfl)).symm.trans h0_) (by decide), fun h0_ => absurd ((hoff 18 (by kernel_rfl)).symm.trans h0_) (by decide), Q_X19_⟩
   refine steps_cons ?_ ?_
   ·rintro b a w' ⟨v209, v212, v215, v218, v221, v224, v227, v230, gb232, m18_, m19_, ha, Q_BK206, Q_BK207, Q_HB, Q_HO210, Q_HO213, Q_HO216, Q_HO219, Q_HO222, Q_HO225, Q_HO228, Q_HO231, Q_BK232, Q_GW232, Q_GE232, Q_NB206_232, Q_NB232_206, Q_NB207_232, Q_NB232_207, Q_BK232_e20, Q_X18_, Q_X19_⟩ hb_ hon hoff
    refine ⟨_, rfl, fun K hK => ?_⟩
    have e6 : a.tmps[6]? = some (.int .i64 a0_0) := by rw [ha]; exact putSel_on (e := (1, 6, .int .i64 a0_0)) 0 rfl rfl (hon 1 (by kernel_rfl)) rfl
    have e10 : a.tmps[10]? = some (v212) := by rw [ha]; exact putSel_on (e := (5, 10, v212)) 3 rfl rfl (hon 5 (by kernel_rfl)) rfl
    have e14 : a.tmps[14]? = some (v218) := by rw [ha]; exact putSel_on (e := (9, 14, v218)) 6 rfl rfl (hon 9 (by kernel_rfl)) rfl
    have e18 : a.tmps[18]? = some (v224) := by rw [ha]; exact putSel_on (e := (13, 18, v224)) 9 rfl rfl (hon 13 (by kernel_rfl)) rfl
    have e22 : a.tmps[22]? = some (v230) := by rw [ha]; exact putSel_on (e := (17, 22, v230)) 12 rfl rfl (hon 17 (by kernel_rfl)) rfl
    replace ha := Aside0.mk ha
    have BK206 := Aside0.mk Q_BK206
    have BK207 := Aside0.mk Q_BK207
    have HB := Aside0.mk Q_HB
    have HO213 := Aside0.mk (Q_HO213 (hon 5 (by kernel_rfl)))
    have HO219 := Aside0.mk (Q_HO219 (hon 9 (by kernel_rfl)))
    have HO225 := Aside0.mk (Q_HO225 (hon 13 (by kernel_rfl)))
    have HO231 := Aside0.mk (Q_HO231 (hon 17 (by kernel_rfl)))
    obtain ⟨Ao18_0, co18_0, eo_⟩ := Kd.R_slice HO213.out
    subst eo_
    obtain ⟨Ao18_1, co18_1, eo_⟩ := Kd.R_slice HO219.out
    subst eo_
    obtain ⟨Ao18_2, co18_2, eo_⟩ := Kd.R_slice HO225.out
    subst eo_
    obtain ⟨Ao18_3, co18_3, eo_⟩ := Kd.R_slice HO231.out
    subst eo_
    refine value_ (w1 := w') (v := .agg #[.int .i64 a0_0, .slice none 0 0, .slice Ao18_0 y211.length co18_0, .slice Ao18_1 y217.length co18_1, .slice Ao18_2 y223.length co18_2, .slice Ao18_3 y229.length co18_3]) (by rfl) rfl ?_ ?_
    ·go_simp
    refine hK.out _ _ ⟨v209, .slice Ao18_0 y211.length co18_0, v215, .slice Ao18_1 y217.length co18_1, v221, .slice Ao18_2 y223.length co18_2, v227, .slice Ao18_3 y229.length co18_3, gb232, (.agg #[.int .i64 a0_0, .slice none 0 0, .slice Ao18_0 y211.length co18_0, .slice Ao18_1 y217.length co18_1, .slice Ao18_2 y223.length co18_2, .slice Ao18_3 y229.length co18_3]), m19_, (by rw [ha.out]; exact putSel_upk 13 hb_ rfl rfl rfl), Q_BK206, Q_BK207, Q_HB, fun _ h1_ => absurd ((hon 5 (by kernel_rfl)).symm.trans h1_) (by decide), Q_HO213, fun _ h1_ => absurd ((hon 9 (by kernel_rfl)).symm.trans h1_) (by decide), Q_HO219, fun _ h1_ => absurd ((hon 13 (by kernel_rfl)).symm.trans h1_) (by decide), Q_HO225, fun _ h1_ => absurd ((hon 17 (by kernel_rfl)).symm.trans h1_) (by decide), Q_HO231, Q_BK232, Q_GW232, Q_GE232, Q_NB206_232, Q_NB232_206, Q_NB207_232, Q_NB232_207, fun h0_ => absurd ((hoff 20 (by kernel_rfl)).symm.trans h0_) (by decide), fun _ => rfl, Q_X19_⟩
   refine steps_cons ?_ ?_
   ·rintro b a w' ⟨v209, v212, v215, v218, v221, v224, v227, v230, gb232, m18_, m19_, ha, Q_BK206, Q_BK207, Q_HB, Q_HO210, Q_HO213, Q_HO216, Q_HO219, Q_HO222, Q_HO225, Q_HO228, Q_HO231, Q_BK232, Q_GW232, Q_GE232, Q_NB206_232, Q_NB232_206, Q_NB207_232, Q_NB232_207, Q_BK232_e20, Q_X18_, Q_X19_⟩ hb_ hon hoff
    refine ⟨_, rfl, fun K hK => ?_⟩
    replace ha := Aside0.mk ha
    have BK206 := Aside0.mk Q_BK206
    have BK207 := Aside0.mk Q_BK207
    have HB := Aside0.mk Q_HB
    refine box_step ?hg (N := 3) ?hd (cs := #[.int .i64 0, .slice none 0 0, .slice none 0 0, .slice none 0 0, .slice none 0 0, .slice none 0 0]) (t := 33) ?hr ?_; (case hd => rfl); (case hg => rfl); (case hr => (go_simp; done))
    intro gb232 hg w9 hbox hb
    have n0_ := Aside0.mk (blk_below (g := gb206) (o := .cells #[.int .i64 a0_0, .slice A0_1 l0_1.length c0_1, .slice A0_2 l0_2.length c0_2, .slice A0_3 l0_3.length c0_3, .slice A0_4 l0_4.length c0_4, .slice A0_5 l0_5.length c0_5] 33 (0, 0)) (by exact BK206.out) hb)
    have n1_ := Aside0.mk (blk_below (g := gb207) (o := .cells #[.int .i64 0, .slice none 0 0, .slice none 0 0, .slice none 0 0, .slice none 0 0, .slice none 0 0] 33 (0, 0)) (by exact BK207.out) hb)
    have n2_ := Aside0.mk (below_step (HB.out) hb)
    have n3_ := Aside0.mk (hbox)
    have n4_ := Aside0.mk ((by rw [hg]; exact (below_size (HB.out)) : w.heap.size ≤ gb232))
    have n5_ := Aside0.mk ((by rw [hg]; exact (below_size (HB.out)) : w.heap.size ≤ gb232))
    have n6_ := Aside0.mk ((by rw [hg]; exact Nat.ne_of_lt (blk_lt (g := gb206) (o := .cells #[.int .i64 a0_0, .slice A0_1 l0_1.length c0_1, .slice A0_2 l0_2.length c0_2, .slice A0_3 l0_3.length c0_3, .slice A0_4 l0_4.length c0_4, .slice A0_5 l0_5.length c0_5] 33 (0, 0)) (by exact BK206.out)) : gb206 ≠ gb232))
    have n7_ := Aside0.mk ((by rw [hg]; exact Nat.ne_of_gt (blk_lt (g := gb206) (o := .cells #[.int .i64 a0_0, .slice A0_1 l0_1.length c0_1, .slice A0_2 l0_2.length c0_2, .slice A0_3 l0_3.length c0_3, .slice A0_4 l0_4.length c0_4, .slice A0_5 l0_5.length c0_5] 33 (0, 0)) (by exact BK206.out)) : gb232 ≠ gb206))
    have n8_ := Aside0.mk ((by rw [hg]; exact Nat.ne_of_lt (blk_lt (g := gb207) (o := .cells #[.int .i64 0, .slice none 0 0, .slice none 0 0, .slice none 0 0, .slice none 0 0, .slice none 0 0] 33 (0, 0)) (by exact BK207.out)) : gb207 ≠ gb232))
    have n9_ := Aside0.mk ((by rw [hg]; exact Nat.ne_of_gt (blk_lt (g := gb207) (o := .cells #[.int .i64 0, .slice none 0 0, .slice none 0 0, .slice none 0 0, .slice none 0 0, .slice none 0 0] 33 (0, 0)) (by exact BK207.out)) : gb232 ≠ gb207))
    have z_HO210 := fun (h0_ : b 2 = true) (h1_ : b 5 = false) => (show Kd.R (Kd.int .i64) 3 w9 w.heap.size (fun k_ => ((b) 6 = true → (b) 9 = false → some k_ ≠ (v215 : Value).ownBlock) ∧ ((b) 9 = true → some k_ ≠ (v218 : Value).ownBlock) ∧ ((b) 10 = true → (b) 13 = false → some k_ ≠ (v221 : Value).ownBlock) ∧ ((b) 13 = true → some k_ ≠ (v224 : Value).ownBlock) ∧ ((b) 14 = true → (b) 17 = false → some k_ ≠ (v227 : Value).ownBlock) ∧ ((b) 17 = true → some k_ ≠ (v230 : Value).ownBlock)) v209 y208 from by exact (Kd.R_below (by exact (Q_HO210 h0_ h1_)) hb))
    have z_HO213 := fun (h0_ : b 5 = true) => (show Kd.R (Kd.int .i64) 3 w9 w.heap.size (fun k_ => ((b) 6 = true → (b) 9 = false → some k_ ≠ (v215 : Value).ownBlock) ∧ ((b) 9 = true → some k_ ≠ (v218 : Value).ownBlock) ∧ ((b) 10 = true → (b) 13 = false → some k_ ≠ (v221 : Value).ownBlock) ∧ ((b) 13 = true → some k_ ≠ (v224 : Value).ownBlock) ∧ ((b) 14 = true → (b) 17 = false → some k_ ≠ (v227 : Value).ownBlock) ∧ ((b) 17 = true → some k_ ≠ (v230 : Value).ownBlock)) v212 y211 from by exact (Kd.R_below (by exact (Q_HO213 h0_)) hb))
    have z_HO216 := fun (h0_ : b 6 = true) (h1_ : b 9 = false) => (show Kd.R (Kd.int .i64) 3 w9 w.heap.size (fun k_ => ((b) 2 = true → (b) 5 = false → some k_ ≠ (v209 : Value).ownBlock) ∧ ((b) 5 = true → some k_ ≠ (v212 : Value).ownBlock) ∧ ((b) 10 = true → (b) 13 = false → some k_ ≠ (v221 : Value).ownBlock) ∧ ((b) 13 = true → some k_ ≠ (v224 : Value).ownBlock) ∧ ((b) 14 = true → (b) 17 = false → some k_ ≠ (v227 : Value).ownBlock) ∧ ((b) 17 = true → some k_ ≠ (v230 : Value).ownBlock)) v215 y214 from by exact (Kd.R_below (by exact (Q_HO216 h0_ h1_)) hb))
    have z_HO219 := fun (h0_ : b 9 = true) => (show Kd.R (Kd.int .i64) 3 w9 w.heap.size (fun k_ => ((b) 2 = true → (b) 5 = false → some k_ ≠ (v209 : Value).ownBlock) ∧ ((b) 5 = true → some k_ ≠ (v212 : Value).ownBlock) ∧ ((b) 10 = true → (b) 13 = false → some k_ ≠ (v221 : Value).ownBlock) ∧ ((b) 13 = true → some k_ ≠ (v224 : Value).ownBlock) ∧ ((b) 14 = true → (b) 17 = false → some k_ ≠ (v227 : Value).ownBlock) ∧ ((b) 17 = true → some k_ ≠ (v230 : Value).ownBlock)) v218 y217 from by exact (Kd.R_below (by exact (Q_HO219 h0_)) hb))
    have z_HO222 := fun (h0_ : b 10 = true) (h1_ : b 13 = false) => (show Kd.R (Kd.int .i64) 3 w9 w.heap.size (fun k_ => ((b) 2 = true → (b) 5 = false → some k_ ≠ (v209 : Value).ownBlock) ∧ ((b) 5 = true → some k_ ≠ (v212 : Value).ownBlock) ∧ ((b) 6 = true → (b) 9 = false → some k_ ≠ (v215 : Value).ownBlock) ∧ ((b) 9 = true → some k_ ≠ (v218 : Value).ownBlock) ∧ ((b) 14 = true → (b) 17 = false → some k_ ≠ (v227 : Value).ownBlock) ∧ ((b) 17 = true → some k_ ≠ (v230 : Value).ownBlock)) v221 y220 from by exact (Kd.R_below (by exact (Q_HO222 h0_ h1_)) hb))
    have z_HO225 := fun (h0_ : b 13 = true) => (show Kd.R (Kd.int .i64) 3 w9 w.heap.size (fun k_ => ((b) 2 = true → (b) 5 = false → some k_ ≠ (v209 : Value).ownBlock) ∧ ((b) 5 = true → some k_ ≠ (v212 : Value).ownBlock) ∧ ((b) 6 = true → (b) 9 = false → some k_ ≠ (v215 : Value).ownBlock) ∧ ((b) 9 = true → some k_ ≠ (v218 : Value).ownBlock) ∧ ((b) 14 = true → (b) 17 = false → some k_ ≠ (v227 : Value).ownBlock) ∧ ((b) 17 = true → some k_ ≠ (v230 : Value).ownBlock)) v224 y223 from by exact (Kd.R_below (by exact (Q_HO225 h0_)) hb))
    have z_HO228 := fun (h0_ : b 14 = true) (h1_ : b 17 = false) => (show Kd.R (Kd.int .i64) 3 w9 w.heap.size (fun k_ => ((b) 2 = true → (b) 5 = false → some k_ ≠ (v209 : Value).ownBlock) ∧ ((b) 5 = true → some k_ ≠ (v212 : Value).ownBlock) ∧ ((b) 6 = true → (b) 9 = false → some k_ ≠ (v215 : Value).ownBlock) ∧ ((b) 9 = true → some k_ ≠ (v218 : Value).ownBlock) ∧ ((b) 10 = true → (b) 13 = false → some k_ ≠ (v221 : Value).ownBlock) ∧ ((b) 13 = true → some k_ ≠ (v224 : Value).ownBlock)) v227 y226 from by exact (Kd.R_below (by exact (Q_HO228 h0_ h1_)) hb))
    have z_HO231 := fun (h0_ : b 17 = true) => (show Kd.R (Kd.int .i64) 3 w9 w.heap.size (fun k_ => ((b) 2 = true → (b) 5 = false → some k_ ≠ (v209 : Value).ownBlock) ∧ ((b) 5 = true → some k_ ≠ (v212 : Value).ownBlock) ∧ ((b) 6 = true → (b) 9 = false → some k_ ≠ (v215 : Value).ownBlock) ∧ ((b) 9 = true → some k_ ≠ (v218 : Value).ownBlock) ∧ ((b) 10 = true → (b) 13 = false → some k_ ≠ (v221 : Value).ownBlock) ∧ ((b) 13 = true → some k_ ≠ (v224 : Value).ownBlock)) v230 y229 from by exact (Kd.R_below (by exact (Q_HO231 h0_)) hb))
    clear BK206 BK207 HB
    have BK206 := n0_
    have BK207 := n1_
    have HB := n2_
    have BK232 := n3_
    have GW232 := n4_
    have GE232 := n5_
    have NB206_232 := n6_
    have NB232_206 := n7_
    have NB207_232 := n8_
    have NB232_207 := n9_
    clear n0_ n1_ n2_ n3_ n4_ n5_ n6_ n7_ n8_ n9_ hb hbox hg
    refine hK.out _ _ ⟨v209, v212, v215, v218, v221, v224, v227, v230, gb232, m18_, (.pointer (some ⟨gb232, 0, none⟩)), (by rw [ha.out]; exact putSel_upk 14 hb_ rfl rfl rfl), (by exact BK206.out), (by exact BK207.out), (HB.out), z_HO210, z_HO213, z_HO216, z_HO219, z_HO222, z_HO225, z_HO228, z_HO231, fun _ _ => (by exact BK232.out), fun _ => GW232.out, fun _ => GE232.out, fun _ => NB206_232.out, fun _ => NB232_206.out, fun _ => NB207_232.out, fun _ => NB232_207.out, fun h0_ => absurd ((hoff 20 (by kernel_rfl)).symm.trans h0_) (by decide), Q_X18_, fun _ => rfl⟩
   refine steps_cons ?_ ?_
   ·rintro b a w' ⟨v209, v212, v215, v218, v221, v224, v227, v230, gb232, m18_, m19_, ha, Q_BK206, Q_BK207, Q_HB, Q_HO210, Q_HO213, Q_HO216, Q_HO219, Q_HO222, Q_HO225, Q_HO228, Q_HO231, Q_BK232, Q_GW232, Q_GE232, Q_NB206_232, Q_NB232_206, Q_NB207_232, Q_NB232_207, Q_BK232_e20, Q_X18_, Q_X19_⟩ hb_ hon hoff
    refine ⟨_, rfl, fun K hK => ?_⟩
    have e3 : a.tmps[3]? = some (m19_) := by rw [ha]; exact putSel_on (e := (19, 3, m19_)) 14 rfl rfl (hon 19 (by kernel_rfl)) rfl
    rw [Q_X19_ (hon 19 (by kernel_rfl))] at e3
    have e23 : a.tmps[23]? = some (m18_) := by rw [ha]; exact putSel_on (e := (18, 23, m18_)) 13 rfl rfl (hon 18 (by kernel_rfl)) rfl
    rw [Q_X18_ (hon 18 (by kernel_rfl))] at e23
    replace ha := Aside0.mk ha
    have BK206 := Aside0.mk Q_BK206
    have BK207 := Aside0.mk Q_BK207
    have HB := Aside0.mk Q_HB
    have HO213 := Aside0.mk (Q_HO213 (hon 5 (by kernel_rfl)))
    have HO219 := Aside0.mk (Q_HO219 (hon 9 (by kernel_rfl)))
    have HO225 := Aside0.mk (Q_HO225 (hon 13 (by kernel_rfl)))
    have HO231 := Aside0.mk (Q_HO231 (hon 17 (by kernel_rfl)))
    have BK232 := Aside0.mk (Q_BK232 (hon 19 (by kernel_rfl)) hb_)
    have GW232 := Aside0.mk (Q_GW232 (hon 19 (by kernel_rfl)))
    have GE232 := Aside0.mk (Q_GE232 (hon 19 (by kernel_rfl)))
    have NB206_232 := Aside0.mk (Q_NB206_232 (hon 19 (by kernel_rfl)))
    have NB232_206 := Aside0.mk (Q_NB232_206 (hon 19 (by kernel_rfl)))
    have NB207_232 := Aside0.mk (Q_NB207_232 (hon 19 (by kernel_rfl)))
    have NB232_207 := Aside0.mk (Q_NB232_207 (hon 19 (by kernel_rfl)))
    obtain ⟨Ao27, co27, eo27⟩ := Kd.R_slice HO231.out
    (subst eo27)
    obtain ⟨Ao28, co28, eo28⟩ := Kd.R_slice HO225.out
    (subst eo28)
    obtain ⟨Ao29, co29, eo29⟩ := Kd.R_slice HO219.out
    (subst eo29)
    obtain ⟨Ao30, co30, eo30⟩ := Kd.R_slice HO213.out
    (subst eo30)
    have hs31 : w'.cell? ⟨gb232, 0, none⟩ = some (.int .i64 0) := (blk_cell BK232.out 0).trans rfl
    have hfs31 := blk_frozen BK232.out 0
    have hns31_0 := NB206_232.out
    have hns31_1 := NB207_232.out
    have hms31_0 := NB232_206.out
    have hms31_1 := NB232_207.out
    have hs32 : w'.cell? ⟨gb232, 1, none⟩ = some (.slice none 0 0) := (blk_cell BK232.out 1).trans rfl
    have hfs32 := blk_frozen BK232.out 1
    have hns32_0 := NB206_232.out
    have hns32_1 := NB207_232.out
    have hms32_0 := NB232_206.out
    have hms32_1 := NB232_207.out
    have hs33 : w'.cell? ⟨gb232, 2, none⟩ = some (.slice none 0 0) := (blk_cell BK232.out 2).trans rfl
    have hfs33 := blk_frozen BK232.out 2
    have hns33_0 := NB206_232.out
    have hns33_1 := NB207_232.out
    have hms33_0 := NB232_206.out
    have hms33_1 := NB232_207.out
    have hs34 : w'.cell? ⟨gb232, 3, none⟩ = some (.slice none 0 0) := (blk_cell BK232.out 3).trans rfl
    have hfs34 := blk_frozen BK232.out 3
    have hns34_0 := NB206_232.out
    have hns34_1 := NB207_232.out
    have hms34_0 := NB232_206.out
    have hms34_1 := NB232_207.out
    have hs35 : w'.cell? ⟨gb232, 4, none⟩ = some (.slice none 0 0) := (blk_cell BK232.out 4).trans rfl
    have hfs35 := blk_frozen BK232.out 4
    have hns35_0 := NB206_232.out
    have hns35_1 := NB207_232.out
    have hms35_0 := NB232_206.out
    have hms35_1 := NB232_207.out
    have hs36 : w'.cell? ⟨gb232, 5, none⟩ = some (.slice none 0 0) := (blk_cell BK232.out 5).trans rfl
    have hfs36 := blk_frozen BK232.out 5
    have hns36_0 := NB206_232.out
    have hns36_1 := NB207_232.out
    have hms36_0 := NB232_206.out
    have hms36_1 := NB232_207.out
    refine skip_ (w1 := ?_) (by rfl) rfl ?_ ?_
    rotate_left
    ·go_simp
     rfl
    refine hK.out _ _ ⟨v209, .slice Ao30 y211.length co30, v215, .slice Ao29 y217.length co29, v221, .slice Ao28 y223.length co28, v227, .slice Ao27 y229.length co27, gb232, m18_, m19_, (by rw [ha.out]; exact putSel_none (v := undef) rfl), (by refine blk_far ?_ NB206_232.out _; (with_reducible repeat (first | refine blk_drewN ?_ _ | refine blk_drew ?_ | refine blk_alloc ?_ _)); refine blk_far ?_ NB206_232.out _; (with_reducible repeat (first | refine blk_drewN ?_ _ | refine blk_drew ?_ | refine blk_alloc ?_ _)); refine blk_far ?_ NB206_232.out _; (with_reducible repeat (first | refine blk_drewN ?_ _ | refine blk_drew ?_ | refine blk_alloc ?_ _)); refine blk_far ?_ NB206_232.out _; (with_reducible repeat (first | refine blk_drewN ?_ _ | refine blk_drew ?_ | refine blk_alloc ?_ _)); refine blk_far ?_ NB206_232.out _; (with_reducible repeat (first | refine blk_drewN ?_ _ | refine blk_drew ?_ | refine blk_alloc ?_ _)); refine blk_far ?_ NB206_232.out _; (with_reducible repeat (first | refine blk_drewN ?_ _ | refine blk_drew ?_ | refine blk_alloc ?_ _)); exact BK206.out), (by refine blk_far ?_ NB207_232.out _; (with_reducible repeat (first | refine blk_drewN ?_ _ | refine blk_drew ?_ | refine blk_alloc ?_ _)); refine blk_far ?_ NB207_232.out _; (with_reducible repeat (first | refine blk_drewN ?_ _ | refine blk_drew ?_ | refine blk_alloc ?_ _)); refine blk_far ?_ NB207_232.out _; (with_reducible repeat (first | refine blk_drewN ?_ _ | refine blk_drew ?_ | refine blk_alloc ?_ _)); refine blk_far ?_ NB207_232.out _; (with_reducible repeat (first | refine blk_drewN ?_ _ | refine blk_drew ?_ | refine blk_alloc ?_ _)); refine blk_far ?_ NB207_232.out _; (with_reducible repeat (first | refine blk_drewN ?_ _ | refine blk_drew ?_ | refine blk_alloc ?_ _)); refine blk_far ?_ NB207_232.out _; (with_reducible repeat (first | refine blk_drewN ?_ _ | refine blk_drew ?_ | refine blk_alloc ?_ _)); exact BK207.out), (by repeat ((with_reducible first | exact HB.out | refine below_set ?_ GE232.out))), fun _ h1_ => absurd ((hon 5 (by kernel_rfl)).symm.trans h1_) (by decide), fun _ => (by exact Kd.R_mono (Kd.R_far (p := ⟨gb232, 5, none⟩) (Kd.R_far (p := ⟨gb232, 4, none⟩) (Kd.R_far (p := ⟨gb232, 3, none⟩) (Kd.R_far (p := ⟨gb232, 2, none⟩) (Kd.R_far (p := ⟨gb232, 1, none⟩) (Kd.R_far (p := ⟨gb232, 0, none⟩) (Kd.R_types HO213.out BK232.out (by decide)) (fun _ hk => hk.2) (.int .i64 a0_0)) (fun _ hk => hk.2) (.slice none 0 0)) (fun _ hk => hk.2) (.slice Ao30 y211.length co30)) (fun _ hk => hk.2) (.slice Ao29 y217.length co29)) (fun _ hk => hk.2) (.slice Ao28 y223.length co28)) (fun _ hk => hk.2) (.slice Ao27 y229.length co27)) (fun _ hk => ⟨hk.1.1, ⟨hk.1.2.1, hk.1.2.2⟩⟩)), fun _ h1_ => absurd ((hon 9 (by kernel_rfl)).symm.trans h1_) (by decide), fun _ => (by exact Kd.R_mono (Kd.R_far (p := ⟨gb232, 5, none⟩) (Kd.R_far (p := ⟨gb232, 4, none⟩) (Kd.R_far (p := ⟨gb232, 3, none⟩) (Kd.R_far (p := ⟨gb232, 2, none⟩) (Kd.R_far (p := ⟨gb232, 1, none⟩) (Kd.R_far (p := ⟨gb232, 0, none⟩) (Kd.R_types HO219.out BK232.out (by decide)) (fun _ hk => hk.2) (.int .i64 a0_0)) (fun _ hk => hk.2) (.slice none 0 0)) (fun _ hk => hk.2) (.slice Ao30 y211.length co30)) (fun _ hk => hk.2) (.slice Ao29 y217.length co29)) (fun _ hk => hk.2) (.slice Ao28 y223.length co28)) (fun _ hk => hk.2) (.slice Ao27 y229.length co27)) (fun _ hk => ⟨hk.1.1, ⟨hk.1.2.1, hk.1.2.2⟩⟩)), fun _ h1_ => absurd ((hon 13 (by kernel_rfl)).symm.trans h1_) (by decide), fun _ => (by exact Kd.R_mono (Kd.R_far (p := ⟨gb232, 5, none⟩) (Kd.R_far (p := ⟨gb232, 4, none⟩) (Kd.R_far (p := ⟨gb232, 3, none⟩) (Kd.R_far (p := ⟨gb232, 2, none⟩) (Kd.R_far (p := ⟨gb232, 1, none⟩) (Kd.R_far (p := ⟨gb232, 0, none⟩) (Kd.R_types HO225.out BK232.out (by decide)) (fun _ hk => hk.2) (.int .i64 a0_0)) (fun _ hk => hk.2) (.slice none 0 0)) (fun _ hk => hk.2) (.slice Ao30 y211.length co30)) (fun _ hk => hk.2) (.slice Ao29 y217.length co29)) (fun _ hk => hk.2) (.slice Ao28 y223.length co28)) (fun _ hk => hk.2) (.slice Ao27 y229.length co27)) (fun _ hk => ⟨hk.1.1, ⟨hk.1.2.1, hk.1.2.2⟩⟩)), fun _ h1_ => absurd ((hon 17 (by kernel_rfl)).symm.trans h1_) (by decide), fun _ => (by exact Kd.R_mono (Kd.R_far (p := ⟨gb232, 5, none⟩) (Kd.R_far (p := ⟨gb232, 4, none⟩) (Kd.R_far (p := ⟨gb232, 3, none⟩) (Kd.R_far (p := ⟨gb232, 2, none⟩) (Kd.R_far (p := ⟨gb232, 1, none⟩) (Kd.R_far (p := ⟨gb232, 0, none⟩) (Kd.R_types HO231.out BK232.out (by decide)) (fun _ hk => hk.2) (.int .i64 a0_0)) (fun _ hk => hk.2) (.slice none 0 0)) (fun _ hk => hk.2) (.slice Ao30 y211.length co30)) (fun _ hk => hk.2) (.slice Ao29 y217.length co29)) (fun _ hk => hk.2) (.slice Ao28 y223.length co28)) (fun _ hk => hk.2) (.slice Ao27 y229.length co27)) (fun _ hk => ⟨hk.1.1, ⟨hk.1.2.1, hk.1.2.2⟩⟩)), fun _ h1_ => absurd ((up_self b 20).symm.trans h1_) (by decide), fun _ => GW232.out, fun _ => GE232.out, fun _ => NB206_232.out, fun _ => NB232_206.out, fun _ => NB207_232.out, fun _ => NB232_207.out, fun _ => (by refine blk_put (cs := #[.int .i64 a0_0, .slice none 0 0, .slice Ao30 y211.length co30, .slice Ao29 y217.length co29, .slice Ao28 y223.length co28, .slice none 0 0]) ?_ 5 _ rfl; (with_reducible repeat (first | refine blk_drewN ?_ _ | refine blk_drew ?_ | refine blk_alloc ?_ _)); refine blk_put (cs := #[.int .i64 a0_0, .slice none 0 0, .slice Ao30 y211.length co30, .slice Ao29 y217.length co29, .slice none 0 0, .slice none 0 0]) ?_ 4 _ rfl; (with_reducible repeat (first | refine blk_drewN ?_ _ | refine blk_drew ?_ | refine blk_alloc ?_ _)); refine blk_put (cs := #[.int .i64 a0_0, .slice none 0 0, .slice Ao30 y211.length co30, .slice none 0 0, .slice none 0 0, .slice none 0 0]) ?_ 3 _ rfl; (with_reducible repeat (first | refine blk_drewN ?_ _ | refine blk_drew ?_ | refine blk_alloc ?_ _)); refine blk_put (cs := #[.int .i64 a0_0, .slice none 0 0, .slice none 0 0, .slice none 0 0, .slice none 0 0, .slice none 0 0]) ?_ 2 _ rfl; (with_reducible repeat (first | refine blk_drewN ?_ _ | refine blk_drew ?_ | refine blk_alloc ?_ _)); refine blk_put (cs := #[.int .i64 a0_0, .slice none 0 0, .slice none 0 0, .slice none 0 0, .slice none 0 0, .slice none 0 0]) ?_ 1 _ rfl; (with_reducible repeat (first | refine blk_drewN ?_ _ | refine blk_drew ?_ | refine blk_alloc ?_ _)); refine blk_put (cs := #[.int .i64 0, .slice none 0 0, .slice none 0 0, .slice none 0 0, .slice none 0 0, .slice none 0 0]) ?_ 0 _ rfl; (with_reducible repeat (first | refine blk_drewN ?_ _ | refine blk_drew ?_ | refine blk_alloc ?_ _)); exact BK232.out), Q_X18_, Q_X19_⟩
   exact steps_nil
  rintro b a w32 hall ⟨v209, v212, v215, v218, v221, v224, v227, v230, gb232, m18_, m19_, ha, Q_BK206, Q_BK207, Q_HB, Q_HO210, Q_HO213, Q_HO216, Q_HO219, Q_HO222, Q_HO225, Q_HO228, Q_HO231, Q_BK232, Q_GW232, Q_GE232, Q_NB206_232, Q_NB232_206, Q_NB207_232, Q_NB232_207, Q_BK232_e20, Q_X18_, Q_X19_⟩
  clear BK206 BK207 HB
  have hb1_ := hall 1 (by kernel_rfl)
  have hb2_ := hall 2 (by kernel_rfl)
  have hb4_ := hall 4 (by kernel_rfl)
  have hb5_ := hall 5 (by kernel_rfl)
  have hb6_ := hall 6 (by kernel_rfl)
  have hb8_ := hall 8 (by kernel_rfl)
  have hb9_ := hall 9 (by kernel_rfl)
  have hb10_ := hall 10 (by kernel_rfl)
  have hb12_ := hall 12 (by kernel_rfl)
  have hb13_ := hall 13 (by kernel_rfl)
  have hb14_ := hall 14 (by kernel_rfl)
  have hb16_ := hall 16 (by kernel_rfl)
  have hb17_ := hall 17 (by kernel_rfl)
  have hb18_ := hall 18 (by kernel_rfl)
  have hb19_ := hall 19 (by kernel_rfl)
  have hb20_ := hall 20 (by kernel_rfl)
  subst ha
  obtain rfl := Q_X18_ hb18_
  obtain rfl := Q_X19_ hb19_
  simp only [putSel, hb1_, hb2_, hb4_, hb5_, hb6_, hb8_, hb9_, hb10_, hb12_, hb13_, hb14_, hb16_, hb17_, hb18_, hb19_, hb20_, if_true, Act.put, List.setIfInBounds_toArray, List.set_cons_zero, List.set_cons_succ]
  have BK206 := Aside0.mk Q_BK206
  clear Q_BK206
  have BK207 := Aside0.mk Q_BK207
  clear Q_BK207
  have HB := Aside0.mk Q_HB
  clear Q_HB Q_HO210
  have HO213 := Aside0.mk (Kd.R_mono (ok' := fun k_ => some k_ ≠ (v218 : Value).ownBlock ∧ some k_ ≠ (v224 : Value).ownBlock ∧ some k_ ≠ (v230 : Value).ownBlock) (Q_HO213 hb5_) (fun k_ hk => ⟨hk.2.1 hb9_, hk.2.2.2.1 hb13_, hk.2.2.2.2.2 hb17_⟩))
  clear Q_HO213 Q_HO216
  have HO219 := Aside0.mk (Kd.R_mono (ok' := fun k_ => some k_ ≠ (v212 : Value).ownBlock ∧ some k_ ≠ (v224 : Value).ownBlock ∧ some k_ ≠ (v230 : Value).ownBlock) (Q_HO219 hb9_) (fun k_ hk => ⟨hk.2.1 hb5_, hk.2.2.2.1 hb13_, hk.2.2.2.2.2 hb17_⟩))
  clear Q_HO219 Q_HO222
  have HO225 := Aside0.mk (Kd.R_mono (ok' := fun k_ => some k_ ≠ (v212 : Value).ownBlock ∧ some k_ ≠ (v218 : Value).ownBlock ∧ some k_ ≠ (v230 : Value).ownBlock) (Q_HO225 hb13_) (fun k_ hk => ⟨hk.2.1 hb5_, hk.2.2.2.1 hb9_, hk.2.2.2.2.2 hb17_⟩))
  clear Q_HO225 Q_HO228
  have HO231 := Aside0.mk (Kd.R_mono (ok' := fun k_ => some k_ ≠ (v212 : Value).ownBlock ∧ some k_ ≠ (v218 : Value).ownBlock ∧ some k_ ≠ (v224 : Value).ownBlock) (Q_HO231 hb17_) (fun k_ hk => ⟨hk.2.1 hb5_, hk.2.2.2.1 hb9_, hk.2.2.2.2.2 hb13_⟩))
  clear Q_HO231 Q_BK232
  have GW232 := Aside0.mk (Q_GW232 hb19_)
  clear Q_GW232
  have GE232 := Aside0.mk (Q_GE232 hb19_)
  clear Q_GE232
  have NB206_232 := Aside0.mk (Q_NB206_232 hb19_)
  clear Q_NB206_232
  have NB232_206 := Aside0.mk (Q_NB232_206 hb19_)
  clear Q_NB232_206
  have NB207_232 := Aside0.mk (Q_NB207_232 hb19_)
  clear Q_NB207_232
  have NB232_207 := Aside0.mk (Q_NB232_207 hb19_)
  clear Q_NB232_207
  have BK232 := Aside0.mk (Q_BK232_e20 hb20_)
  clear Q_BK232_e20 hall hb1_ hb2_ hb4_ hb5_ hb6_ hb8_ hb9_ hb10_ hb12_ hb13_ hb14_ hb16_ hb17_ hb18_ hb19_ hb20_
  obtain ⟨Ao33, co33, eo33⟩ := Kd.R_slice HO231.out
  (subst eo33)
  obtain ⟨Ao34, co34, eo34⟩ := Kd.R_slice HO225.out
  (subst eo34)
  obtain ⟨Ao35, co35, eo35⟩ := Kd.R_slice HO219.out
  (subst eo35)
  obtain ⟨Ao36, co36, eo36⟩ := Kd.R_slice HO213.out
  (subst eo36)
  go_wp2
  go_loopg [4] k (fun kq v4 w' => ∃ (x4_1 : Int) (x233001_1 : List (List Int)) (u233001 : Value), v4 = .int .i64 x4_1 ∧ Aside0 (slabvaultlaw12_own.l0 kq x4_1 a0_0 l0_1 l0_2 l0_3 l0_4 l0_5 a0_0 x233001_1 y211 y217 y223 y229 = some (r1, r2, r3, r4, r5, r6)) ∧ Aside0 (kq ≤ k) ∧ Aside0 (Kd.S (Kd.slice 3 (Kd.int .i64)) 22 w' w.heap.size (fun k_ => some k_ ≠ ((.slice Ao36 y211.length co36) : Value).ownBlock ∧ some k_ ≠ ((.slice Ao35 y217.length co35) : Value).ownBlock ∧ some k_ ≠ ((.slice Ao34 y223.length co34) : Value).ownBlock ∧ some k_ ≠ ((.slice Ao33 y229.length co33) : Value).ownBlock) u233001 x233001_1) ∧ Aside0 (Kd.R (Kd.int .i64) 3 w' w.heap.size (fun k_ => some k_ ≠ ((.slice Ao35 y217.length co35) : Value).ownBlock ∧ some k_ ≠ ((.slice Ao34 y223.length co34) : Value).ownBlock ∧ some k_ ≠ ((.slice Ao33 y229.length co33) : Value).ownBlock) (.slice Ao36 y211.length co36) y211) ∧ Aside0 (Kd.R (Kd.int .i64) 3 w' w.heap.size (fun k_ => some k_ ≠ ((.slice Ao36 y211.length co36) : Value).ownBlock ∧ some k_ ≠ ((.slice Ao34 y223.length co34) : Value).ownBlock ∧ some k_ ≠ ((.slice Ao33 y229.length co33) : Value).ownBlock) (.slice Ao35 y217.length co35) y217) ∧ Aside0 (Kd.R (Kd.int .i64) 3 w' w.heap.size (fun k_ => some k_ ≠ ((.slice Ao36 y211.length co36) : Value).ownBlock ∧ some k_ ≠ ((.slice Ao35 y217.length co35) : Value).ownBlock ∧ some k_ ≠ ((.slice Ao33 y229.length co33) : Value).ownBlock) (.slice Ao34 y223.length co34) y223) ∧ Aside0 (Kd.R (Kd.int .i64) 3 w' w.heap.size (fun k_ => some k_ ≠ ((.slice Ao36 y211.length co36) : Value).ownBlock ∧ some k_ ≠ ((.slice Ao35 y217.length co35) : Value).ownBlock ∧ some k_ ≠ ((.slice Ao34 y223.length co34) : Value).ownBlock) (.slice Ao33 y229.length co33) y229) ∧ Aside0 (w'.heap[gb206]? = some (.cells #[.int .i64 a0_0, (.slice A0_1 l0_1.length c0_1), (.slice A0_2 l0_2.length c0_2), (.slice A0_3 l0_3.length c0_3), (.slice A0_4 l0_4.length c0_4), (.slice A0_5 l0_5.length c0_5)] 33 (0, 0))) ∧ Aside0 (w'.heap[gb207]? = some (.cells #[.int .i64 0, (.slice none 0 0), (.slice none 0 0), (.slice none 0 0), (.slice none 0 0), (.slice none 0 0)] 33 (0, 0))) ∧ Aside0 (w'.heap[gb232]? = some (.cells #[.int .i64 a0_0, u233001, (.slice Ao36 y211.length co36), (.slice Ao35 y217.length co35), (.slice Ao34 y223.length co34), (.slice Ao33 y229.length co33)] 33 (0, 0))) ∧ Aside0 (Below w.heap.size w w'))
  case atStart => exact ⟨(0), (([] : List (List Int))), (.slice none 0 0), (by rfl), H', ⟨Nat.le_refl _⟩, ⟨by exact Kd.S_nil _ _ _ _ _⟩, ⟨by (with_reducible repeat (first | apply Kd.R_alloc | apply Kd.R_drewN | apply Kd.R_drew)); exact HO213.out⟩, ⟨by (with_reducible repeat (first | apply Kd.R_alloc | apply Kd.R_drewN | apply Kd.R_drew)); exact HO219.out⟩, ⟨by (with_reducible repeat (first | apply Kd.R_alloc | apply Kd.R_drewN | apply Kd.R_drew)); exact HO225.out⟩, ⟨by (with_reducible repeat (first | apply Kd.R_alloc | apply Kd.R_drewN | apply Kd.R_drew)); exact HO231.out⟩, ⟨by (with_reducible repeat (first | refine blk_drewN ?_ _ | refine blk_drew ?_ | refine blk_alloc ?_ _)); exact BK206.out⟩, ⟨by (with_reducible repeat (first | refine blk_drewN ?_ _ | refine blk_drew ?_ | refine blk_alloc ?_ _)); exact BK207.out⟩, ⟨by (with_reducible repeat (first | refine blk_drewN ?_ _ | refine blk_drew ?_ | refine blk_alloc ?_ _)); exact BK232.out⟩, ⟨HB.out⟩⟩
  case round =>
   clear H'
   obtain ⟨x4_1, x233001_1, u233001, rfl, HA, HK1, HO_233001, HO_233002, HO_233003, HO_233004, HO_233005, BK206, BK207, BK232, HB⟩ := hrel
   cases gk with
   | zero => exact absurd HA.out (by simp [slabvaultlaw12_own.l0])
   | succ k1 =>
    have H := HA.out
    clear HA
    simp only [slabvaultlaw12_own.l0] at H
    by_cases c37 : x4_1 < (l0_1.length : Int)
    ·rw [if_pos c37] at H
     have c37b0 : decide (x4_1 < (l0_1.length : Int)) = true := decide_eq_true c37
     clear c37
     obtain ⟨y233, hy233⟩ : ∃ y_ : List Int, y_ = (([] : List Int)) := ⟨_, rfl⟩
     replace H : (if 0 ≤ x4_1 then (if y233.length + (rd_L1 l0_1 x4_1).length < 17592186044416 then (if x233001_1.length < 5864062014805 then (slabvaultlaw12_own.l0 k1 (wrap64 (x4_1 + 1)) a0_0 l0_1 l0_2 l0_3 l0_4 l0_5 a0_0 (x233001_1 ++ [(y233 ++ (rd_L1 l0_1 x4_1))]) y211 y217 y223 y229) else (none)) else (none)) else (none)) = some (r1, r2, r3, r4, r5, r6) := by (have H2_ := (Option.bind_some _ _).symm.trans H; rw [hy233]; with_reducible exact H2_)
     have Ny233 := Aside0.mk hy233
     clear hy233
     by_cases c38 : 0 ≤ x4_1
     case neg => rw [if_neg c38] at H; exact absurd H (by simp)
     rw [if_pos c38] at H
     have c38b0 : decide (0 ≤ x4_1) = true := decide_eq_true c38
     clear c38
     by_cases c39 : y233.length + (rd_L1 l0_1 x4_1).length < 17592186044416
     case neg => rw [if_neg c39] at H; exact absurd H (by simp)
     rw [if_pos c39] at H
     have LMc39 := Aside0.mk c39
     clear c39
     obtain ⟨y237, hy237⟩ : ∃ y_ : List Int, y_ = (y233 ++ (rd_L1 l0_1 x4_1)) := ⟨_, rfl⟩
     replace H : (if x233001_1.length < 5864062014805 then (slabvaultlaw12_own.l0 k1 (wrap64 (x4_1 + 1)) a0_0 l0_1 l0_2 l0_3 l0_4 l0_5 a0_0 (x233001_1 ++ [y237]) y211 y217 y223 y229) else (none)) = some (r1, r2, r3, r4, r5, r6) := by (rw [hy237]; with_reducible exact H)
     have Ny237 := Aside0.mk hy237
     clear hy237
     by_cases c40 : x233001_1.length < 5864062014805
     case neg => rw [if_neg c40] at H; exact absurd H (by simp)
     rw [if_pos c40] at H
     have LMc40 := Aside0.mk c40
     clear c40
     obtain ⟨y240, hy240⟩ : ∃ y_ : List (List Int), y_ = (x233001_1 ++ [y237]) := ⟨_, rfl⟩
     replace H : (slabvaultlaw12_own.l0 k1 (wrap64 (x4_1 + 1)) a0_0 l0_1 l0_2 l0_3 l0_4 l0_5 a0_0 y240 y211 y217 y223 y229) = some (r1, r2, r3, r4, r5, r6) := by (rw [hy240]; with_reducible exact H)
     have Ny240 := Aside0.mk hy240
     clear hy240
     have H' := Aside0.mk H
     clear H
     have hnb41 := NB206_207.out
     have hnc41 := NB207_206.out
     have hnb42 := NB206_232.out
     have hnc42 := NB232_206.out
     have hcz43_0 : wr.cell? ⟨gb206, 0, none⟩ = some (.int .i64 a0_0) := (blk_cell BK206.out 0).trans rfl
     have hcz43_1 : wr.cell? ⟨gb206, 1, none⟩ = some (.slice A0_1 l0_1.length c0_1) := (blk_cell BK206.out 1).trans rfl
     have hcz43_2 : wr.cell? ⟨gb206, 2, none⟩ = some (.slice A0_2 l0_2.length c0_2) := (blk_cell BK206.out 2).trans rfl
     have hcz43_3 : wr.cell? ⟨gb206, 3, none⟩ = some (.slice A0_3 l0_3.length c0_3) := (blk_cell BK206.out 3).trans rfl
     have hcz43_4 : wr.cell? ⟨gb206, 4, none⟩ = some (.slice A0_4 l0_4.length c0_4) := (blk_cell BK206.out 4).trans rfl
     have hcz43_5 : wr.cell? ⟨gb206, 5, none⟩ = some (.slice A0_5 l0_5.length c0_5) := (blk_cell BK206.out 5).trans rfl
     have hfz43_0 := blk_frozen BK206.out 0
     have hfz43_1 := blk_frozen BK206.out 1
     have hfz43_2 := blk_frozen BK206.out 2
     have hfz43_3 := blk_frozen BK206.out 3
     have hfz43_4 := blk_frozen BK206.out 4
     have hfz43_5 := blk_frozen BK206.out 5
     go_wp2
     have n0_ := Aside0.mk (Kd.S_drew HO_233001.out)
     have n1_ := Aside0.mk (Kd.R_drew HO_233002.out)
     have n2_ := Aside0.mk (Kd.R_drew HO_233003.out)
     have n3_ := Aside0.mk (Kd.R_drew HO_233004.out)
     have n4_ := Aside0.mk (Kd.R_drew HO_233005.out)
     have n5_ := Aside0.mk (blk_drew BK206.out)
     have n6_ := Aside0.mk (blk_drew BK207.out)
     have n7_ := Aside0.mk (blk_drew BK232.out)
     have n8_ := Aside0.mk (below_drew1 HB.out)
     clear HO_233001 HO_233002 HO_233003 HO_233004 HO_233005 BK206 BK207 BK232 HB
     have HO_233001 := n0_
     have HO_233002 := n1_
     have HO_233003 := n2_
     have HO_233004 := n3_
     have HO_233005 := n4_
     have BK206 := n5_
     have BK207 := n6_
     have BK232 := n7_
     have HB := n8_
     clear n0_ n1_ n2_ n3_ n4_ n5_ n6_ n7_ n8_
     have p236 : 0 ≤ (x4_1 : Int) := of_decide_eq_true (by (with_reducible assumption))
     have q236 : x4_1 < (l0_1.length : Int) := of_decide_eq_true (by (with_reducible assumption))
     obtain ⟨ad236, A236_0, c236_0, e236, hx236_0, hl236_0, hi236_0⟩ := at_L1 HR0_1.out x4_1 p236 q236
     have hw236_0 := hx236_0
     cases e236
     replace hx236_0 := (HB.out.cell (World.block_lt_of_cell? w _ hx236_0)).trans hx236_0
     have HR236_0 := Aside0.mk hi236_0
     have HC236_0 := Aside0.mk hl236_0
     clear hi236_0 hl236_0
     replace p236 := eq_true p236
     replace q236 := eq_true q236
     refine start_ (n := 13) (S := fun w' => w'.cell? ⟨gb232, 0, none⟩ = some (.int .i64 a0_0) ∧ w'.cell? ⟨gb232, 1, none⟩ = some (u233001) ∧ w'.cell? ⟨gb232, 2, none⟩ = some (.slice Ao36 y211.length co36) ∧ w'.cell? ⟨gb232, 3, none⟩ = some (.slice Ao35 y217.length co35) ∧ w'.cell? ⟨gb232, 4, none⟩ = some (.slice Ao34 y223.length co34) ∧ w'.cell? ⟨gb232, 5, none⟩ = some (.slice Ao33 y229.length co33) ∧ w'.cell? ⟨gb206, 0, none⟩ = some (.int .i64 a0_0) ∧ w'.cell? ⟨gb206, 1, none⟩ = some (.slice (some ad236) l0_1.length c0_1) ∧ w'.cell? ⟨gb206, 2, none⟩ = some (.slice A0_2 l0_2.length c0_2) ∧ w'.cell? ⟨gb206, 3, none⟩ = some (.slice A0_3 l0_3.length c0_3) ∧ w'.cell? ⟨gb206, 4, none⟩ = some (.slice A0_4 l0_4.length c0_4) ∧ w'.cell? ⟨gb206, 5, none⟩ = some (.slice A0_5 l0_5.length c0_5) ∧ w'.cell? (ad236.add (x4_1).toNat) = some (.slice A236_0 (rd_L1 l0_1 x4_1).length c236_0)) (ds := [12]) #[false, false, false, false, false, false, false, false, false, false, false, false, false] (by kernel_rfl) rfl rfl ⟨(blk_cell BK232.out 0).trans rfl, (blk_cell BK232.out 1).trans rfl, (blk_cell BK232.out 2).trans rfl, (blk_cell BK232.out 3).trans rfl, (blk_cell BK232.out 4).trans rfl, (blk_cell BK232.out 5).trans rfl, (blk_cell BK206.out 0).trans rfl, (blk_cell BK206.out 1).trans rfl, (blk_cell BK206.out 2).trans rfl, (blk_cell BK206.out 3).trans rfl, (blk_cell BK206.out 4).trans rfl, (blk_cell BK206.out 5).trans rfl, ((HB.out.cell (World.block_lt_of_cell? w _ hw236_0)).trans hw236_0)⟩ (fun hHeld => ?_); refine with_tabW slabvaultlaw12_own.tab5 slabvaultlaw12_own.bits5 (fun HT_ HW_ => ?_)
     generalize wr.drew = w44 at HO_233001 HO_233002 HO_233003 HO_233004 HO_233005 BK206 BK207 BK232 HB HR236_0 hx236_0 hHeld ⊢
     refine pure_ (i := 0) (N := some 31) (v := ?_) (a' := ?_) #[true, false, false, false, false, false, false, false, false, false, false, false, false] rfl rfl (any_of HT_.out (by kernel_rfl)) (fun _ _ _ h => h) (Or.inl ⟨by rfl, ?_⟩) ?_ ?_
     rotate_left
     ·intro w'
      go_simp
      with_reducible rfl
     rotate_left
     ·simp only [Act.put, List.setIfInBounds_toArray, List.set_cons_zero, List.set_cons_succ, i64_w, i32_w]
      rfl
     refine pure_ (i := 3) (N := some 34) (v := ?_) (a' := ?_) #[true, false, false, true, false, false, false, false, false, false, false, false, false] rfl rfl (any_of HT_.out (by kernel_rfl)) (fun _ _ _ h => h) (Or.inl ⟨by rfl, ?_⟩) ?_ ?_
     rotate_left
     ·intro w'
      go_simp
      with_reducible rfl
     rotate_left
     ·simp only [Act.put, List.setIfInBounds_toArray, List.set_cons_zero, List.set_cons_succ, i64_w, i32_w]
      rfl
     refine pure_ (i := 5) (N := some 36) (v := ?_) (a' := ?_) #[true, false, false, true, false, true, false, false, false, false, false, false, false] rfl rfl (any_of HT_.out (by kernel_rfl)) (fun _ _ _ h => h) (Or.inl ⟨by rfl, ?_⟩) ?_ ?_
     rotate_left
     ·intro w'
      go_simp
      with_reducible rfl
     rotate_left
     ·simp only [Act.put, List.setIfInBounds_toArray, List.set_cons_zero, List.set_cons_succ, i64_w, i32_w]
      rfl
     refine take_ (i := 1) (N := some 32) (v := ?_) (a' := ?_) #[true, true, false, true, false, true, false, false, false, false, false, false, false] rfl rfl (take_ofW HT_.out HW_.out (by kernel_rfl)) (fun _ _ _ h => h) (Or.inl ⟨by rfl, ?_⟩) hHeld ?_ ?_
     rotate_left
     ·rintro w' ⟨s0, s1, s2, s3, s4, s5, s6, s7, s8, s9, s10, s11, s12⟩
      go_simp
      with_reducible rfl
     rotate_left
     ·simp only [Act.put, List.setIfInBounds_toArray, List.set_cons_zero, List.set_cons_succ, i64_w, i32_w]
      rfl
     refine take_ (i := 4) (N := some 35) (v := ?_) (a' := ?_) #[true, true, false, true, true, true, false, false, false, false, false, false, false] rfl rfl (take_ofW HT_.out HW_.out (by kernel_rfl)) (fun _ _ _ h => h) (Or.inl ⟨by rfl, ?_⟩) hHeld ?_ ?_
     rotate_left
     ·rintro w' ⟨s0, s1, s2, s3, s4, s5, s6, s7, s8, s9, s10, s11, s12⟩
      go_simp
      with_reducible rfl
     rotate_left
     ·simp only [Act.put, List.setIfInBounds_toArray, List.set_cons_zero, List.set_cons_succ, i64_w, i32_w]
      rfl
     refine pure_ (i := 6) (N := some 37) (v := ?_) (a' := ?_) #[true, true, false, true, true, true, true, false, false, false, false, false, false] rfl rfl (any_of HT_.out (by kernel_rfl)) (fun _ _ _ h => h) (Or.inl ⟨by rfl, ?_⟩) ?_ ?_
     rotate_left
     ·intro w'
      go_simp
      with_reducible rfl
     rotate_left
     ·simp only [Act.put, List.setIfInBounds_toArray, List.set_cons_zero, List.set_cons_succ, i64_w, i32_w]
      rfl
     refine take_ (i := 7) (N := some 38) (v := ?_) (a' := ?_) #[true, true, false, true, true, true, true, true, false, false, false, false, false] rfl rfl (take_ofW HT_.out HW_.out (by kernel_rfl)) (fun _ _ _ h => h) (Or.inl ⟨by rfl, ?_⟩) hHeld ?_ ?_
     rotate_left
     ·rintro w' ⟨s0, s1, s2, s3, s4, s5, s6, s7, s8, s9, s10, s11, s12⟩
      go_simp
      with_reducible rfl
     rotate_left
     ·simp only [Act.put, List.setIfInBounds_toArray, List.set_cons_zero, List.set_cons_succ, i64_w, i32_w]
      rfl
     refine one_ (i := 2) (N := some 33) #[true, true, true, true, true, true, true, true, false, false, false, false, false] rfl rfl (one_of HT_.out (by kernel_rfl)) (by decide) (fun K hK => ?_)
     refine Kd.R_lit_step (Kd.int .i64) _ 3 ?hg (N := 33) ?hd (xs := ([] : List Int)) (inner := []) (ok := fun _ => True) (okp := fun _ => True) ?hr ?hp (fun _ hk => hk) trivial (Below.refl _ _) (Nat.le_refl _) (by simp) ?_; (case hd => rfl); (case hg => rfl); (case hr => (go_simp; done)); (case hp => exact (Reps.none _ _))
     intro v234 w45 ho46 hb hg_ hnew_
     clear hg_ hnew_
     (rw [← Ny233.out] at ho46)
     have n0_ := Aside0.mk (Kd.S_elder' (by exact HO_233001.out) (Kd.R_base ho46) hb)
     have n1_ := Aside0.mk (Kd.R_elder' (by exact HO_233002.out) (Kd.R_base ho46) hb)
     have n2_ := Aside0.mk (Kd.R_elder' (by exact HO_233003.out) (Kd.R_base ho46) hb)
     have n3_ := Aside0.mk (Kd.R_elder' (by exact HO_233004.out) (Kd.R_base ho46) hb)
     have n4_ := Aside0.mk (Kd.R_elder' (by exact HO_233005.out) (Kd.R_base ho46) hb)
     have n5_ := Aside0.mk (Kd.R_lower (Kd.R_new' (Kd.R_new' (Kd.R_new' (Kd.R_new' ho46 (Kd.R_lt (by exact HO_233002.out))) (Kd.R_lt (by exact HO_233003.out))) (Kd.R_lt (by exact HO_233004.out))) (Kd.R_lt (by exact HO_233005.out))) (below_size (HB.out)))
     have n6_ := Aside0.mk (blk_below (g := gb206) (o := .cells #[.int .i64 a0_0, .slice (some ad236) l0_1.length c0_1, .slice A0_2 l0_2.length c0_2, .slice A0_3 l0_3.length c0_3, .slice A0_4 l0_4.length c0_4, .slice A0_5 l0_5.length c0_5] 33 (0, 0)) (by exact BK206.out) hb)
     have n7_ := Aside0.mk (blk_below (g := gb207) (o := .cells #[.int .i64 0, .slice none 0 0, .slice none 0 0, .slice none 0 0, .slice none 0 0, .slice none 0 0] 33 (0, 0)) (by exact BK207.out) hb)
     have n8_ := Aside0.mk (blk_below (g := gb232) (o := .cells #[.int .i64 a0_0, u233001, .slice Ao36 y211.length co36, .slice Ao35 y217.length co35, .slice Ao34 y223.length co34, .slice Ao33 y229.length co33] 33 (0, 0)) (by exact BK232.out) hb)
     have n9_ := Aside0.mk (below_step (HB.out) hb)
     clear HO_233001 HO_233002 HO_233003 HO_233004 HO_233005 BK206 BK207 BK232 HB
     have HO_233001 := n0_
     have HO_233002 := n1_
     have HO_233003 := n2_
     have HO_233004 := n3_
     have HO_233005 := n4_
     have HO235 := n5_
     have BK206 := n6_
     have BK207 := n7_
     have BK232 := n8_
     have HB := n9_
     clear n0_ n1_ n2_ n3_ n4_ n5_ n6_ n7_ n8_ n9_ hb ho46
     refine hK.out _ _ ⟨(blk_cell BK232.out 0).trans rfl, (blk_cell BK232.out 1).trans rfl, (blk_cell BK232.out 2).trans rfl, (blk_cell BK232.out 3).trans rfl, (blk_cell BK232.out 4).trans rfl, (blk_cell BK232.out 5).trans rfl, (blk_cell BK206.out 0).trans rfl, (blk_cell BK206.out 1).trans rfl, (blk_cell BK206.out 2).trans rfl, (blk_cell BK206.out 3).trans rfl, (blk_cell BK206.out 4).trans rfl, (blk_cell BK206.out 5).trans rfl, ((HB.out.cell (World.block_lt_of_cell? w _ hw236_0)).trans hw236_0)⟩ (fun hHeld => ?_)
     clear hK K
     refine norm_ (a' := ?_) ?_ ?_
     rotate_left
     ·show Act.put _ (some 33) _ = _
      simp only [Act.put, List.setIfInBounds_toArray, List.set_cons_zero, List.set_cons_succ, i64_w, i32_w]
      rfl
     refine one_ (i := 8) (N := some 39) #[true, true, true, true, true, true, true, true, true, false, false, false, false] rfl rfl (one_of HT_.out (by kernel_rfl)) (by decide) (fun K hK => ?_)
     refine Kd.R_append_rows_step (Kd.int .i64) (w0 := w) w.heap.size (by rfl) (.tmp 33) (.tmp 38) 22 3 (.int .i64 0) 8 rfl Try.underlying22 info3 rfl (by decide) (by omega) v234 y233 (rd_L1 l0_1 x4_1) _ _ _ (fun k_ => some k_ ≠ (.slice Ao36 y211.length co36 : Value).ownBlock ∧ some k_ ≠ (.slice Ao35 y217.length co35 : Value).ownBlock ∧ some k_ ≠ (.slice Ao34 y223.length co34 : Value).ownBlock ∧ some k_ ≠ (.slice Ao33 y229.length co33 : Value).ownBlock) (fun _ => False) (by rfl) (by rfl) ?aO ?aR (fun _ _ h => h) (fun _ h => h.elim) ?aF ?aB ?aS ?aL ?_
     (case aR => repeat (exact (Kd.C_below HR236_0.out HB.out)))
     (case aB => exact (HB.out))
     (case aF => exact (fun k_ hk => ⟨Kd.fresh' (Kd.R_lt (by exact HO_233002.out)) k_ hk, Kd.fresh' (Kd.R_lt (by exact HO_233003.out)) k_ hk, Kd.fresh' (Kd.R_lt (by exact HO_233004.out)) k_ hk, Kd.fresh' (Kd.R_lt (by exact HO_233005.out)) k_ hk⟩))
     (case aO => exact (by exact Kd.R_mono HO235.out (fun _ hk => ⟨hk.1.1.1.2, ⟨hk.1.1.2, ⟨hk.1.2, hk.2⟩⟩⟩)))
     (case aS => exact (below_size (HB.out)))
     (case aL => have := LMc39.out; omega)
     intro v238 w47 ho hb hg hat
     rw [← Ny237.out] at ho
     have n0_ := Aside0.mk (Kd.S_after (ok := (fun k_ => some k_ ≠ (.slice Ao36 y211.length co36 : Value).ownBlock ∧ some k_ ≠ (.slice Ao35 y217.length co35 : Value).ownBlock ∧ some k_ ≠ (.slice Ao34 y223.length co34 : Value).ownBlock ∧ some k_ ≠ (.slice Ao33 y229.length co33 : Value).ownBlock)) (by exact HO_233001.out) hg hat)
     have n1_ := Aside0.mk (Kd.R_after (ok := (fun k_ => some k_ ≠ (.slice Ao35 y217.length co35 : Value).ownBlock ∧ some k_ ≠ (.slice Ao34 y223.length co34 : Value).ownBlock ∧ some k_ ≠ (.slice Ao33 y229.length co33 : Value).ownBlock)) (by exact HO_233002.out) hg hat)
     have n2_ := Aside0.mk (Kd.R_after (ok := (fun k_ => some k_ ≠ (.slice Ao36 y211.length co36 : Value).ownBlock ∧ some k_ ≠ (.slice Ao34 y223.length co34 : Value).ownBlock ∧ some k_ ≠ (.slice Ao33 y229.length co33 : Value).ownBlock)) (by exact HO_233003.out) hg hat)
     have n3_ := Aside0.mk (Kd.R_after (ok := (fun k_ => some k_ ≠ (.slice Ao36 y211.length co36 : Value).ownBlock ∧ some k_ ≠ (.slice Ao35 y217.length co35 : Value).ownBlock ∧ some k_ ≠ (.slice Ao33 y229.length co33 : Value).ownBlock)) (by exact HO_233004.out) hg hat)
     have n4_ := Aside0.mk (Kd.R_after (ok := (fun k_ => some k_ ≠ (.slice Ao36 y211.length co36 : Value).ownBlock ∧ some k_ ≠ (.slice Ao35 y217.length co35 : Value).ownBlock ∧ some k_ ≠ (.slice Ao34 y223.length co34 : Value).ownBlock)) (by exact HO_233005.out) hg hat)
     have n5_ := Aside0.mk (blk_grown (g := gb206) (o := .cells #[.int .i64 a0_0, .slice (some ad236) l0_1.length c0_1, .slice A0_2 l0_2.length c0_2, .slice A0_3 l0_3.length c0_3, .slice A0_4 l0_4.length c0_4, .slice A0_5 l0_5.length c0_5] 33 (0, 0)) (by exact BK206.out) hg (Kd.R_ne HO235.out BK206.out (by decide)))
     have n6_ := Aside0.mk (blk_grown (g := gb207) (o := .cells #[.int .i64 0, .slice none 0 0, .slice none 0 0, .slice none 0 0, .slice none 0 0, .slice none 0 0] 33 (0, 0)) (by exact BK207.out) hg (Kd.R_ne HO235.out BK207.out (by decide)))
     have n7_ := Aside0.mk (blk_grown (g := gb232) (o := .cells #[.int .i64 a0_0, u233001, .slice Ao36 y211.length co36, .slice Ao35 y217.length co35, .slice Ao34 y223.length co34, .slice Ao33 y229.length co33] 33 (0, 0)) (by exact BK232.out) hg (Kd.R_ne HO235.out BK232.out (by decide)))
     have n8_ := Aside0.mk (hb)
     have n9_ := Aside0.mk (ho)
     clear HO_233001 HO_233002 HO_233003 HO_233004 HO_233005 BK206 BK207 BK232 HB HO235
     have HO_233001 := n0_
     have HO_233002 := n1_
     have HO_233003 := n2_
     have HO_233004 := n3_
     have HO_233005 := n4_
     have BK206 := n5_
     have BK207 := n6_
     have BK232 := n7_
     have HB := n8_
     have HO239 := n9_
     clear n0_ n1_ n2_ n3_ n4_ n5_ n6_ n7_ n8_ n9_ ho hb hg hat
     obtain ⟨Ao49, co49, eo49⟩ := Kd.R_slice HO239.out
     (subst eo49)
     refine hK.out _ _ ⟨(blk_cell BK232.out 0).trans rfl, (blk_cell BK232.out 1).trans rfl, (blk_cell BK232.out 2).trans rfl, (blk_cell BK232.out 3).trans rfl, (blk_cell BK232.out 4).trans rfl, (blk_cell BK232.out 5).trans rfl, (blk_cell BK206.out 0).trans rfl, (blk_cell BK206.out 1).trans rfl, (blk_cell BK206.out 2).trans rfl, (blk_cell BK206.out 3).trans rfl, (blk_cell BK206.out 4).trans rfl, (blk_cell BK206.out 5).trans rfl, ((HB.out.cell (World.block_lt_of_cell? w _ hw236_0)).trans hw236_0)⟩ (fun hHeld => ?_)
     clear hK K
     refine norm_ (a' := ?_) ?_ ?_
     rotate_left
     ·show Act.put _ (some 39) _ = _
      simp only [Act.put, List.setIfInBounds_toArray, List.set_cons_zero, List.set_cons_succ, i64_w, i32_w]
      rfl
     refine one_ (i := 9) (N := some 40) #[true, true, true, true, true, true, true, true, true, true, false, false, false] rfl rfl (one_of HT_.out (by kernel_rfl)) (by decide) (fun K hK => ?_)
     refine value_ (w1 := ?_) (v := ?_) (by rfl) rfl ?_ ?_
     rotate_left 2
     ·go_simp
      constructor
      ·rfl
      ·rfl
     refine hK.out _ _ ⟨(blk_cell (blk_alloc BK232.out _) 0).trans rfl, (blk_cell (blk_alloc BK232.out _) 1).trans rfl, (blk_cell (blk_alloc BK232.out _) 2).trans rfl, (blk_cell (blk_alloc BK232.out _) 3).trans rfl, (blk_cell (blk_alloc BK232.out _) 4).trans rfl, (blk_cell (blk_alloc BK232.out _) 5).trans rfl, (blk_cell (blk_alloc BK206.out _) 0).trans rfl, (blk_cell (blk_alloc BK206.out _) 1).trans rfl, (blk_cell (blk_alloc BK206.out _) 2).trans rfl, (blk_cell (blk_alloc BK206.out _) 3).trans rfl, (blk_cell (blk_alloc BK206.out _) 4).trans rfl, (blk_cell (blk_alloc BK206.out _) 5).trans rfl, (World.cell?_alloc_lt _ _ _ (World.block_lt_of_cell? _ _ (((HB.out.cell (World.block_lt_of_cell? w _ hw236_0)).trans hw236_0)))).trans (((HB.out.cell (World.block_lt_of_cell? w _ hw236_0)).trans hw236_0))⟩ (fun hHeld => ?_)
     clear hK K
     refine norm_ (a' := ?_) ?_ ?_
     rotate_left
     ·show Act.put _ (some 40) _ = _
      simp only [Act.put, List.setIfInBounds_toArray, List.set_cons_zero, List.set_cons_succ, i64_w, i32_w]
      rfl
     refine one_ (i := 10) (N := some 41) #[true, true, true, true, true, true, true, true, true, true, true, false, false] rfl rfl (one_of HT_.out (by kernel_rfl)) (by decide) (fun K hK => ?_)
     refine Kd.S_append_step (Kd.slice 3 (Kd.int .i64)) (w0 := w) w.heap.size (by rfl) (.tmp 32) (.tmp 40) 31 22 (.slice none 0 0) 24 rfl Try.underlying31 info22 rfl (by decide) (by omega) u233001 x233001_1 y237 [.slice Ao49 y237.length co49] (fun k_ => some k_ ≠ (.slice Ao36 y211.length co36 : Value).ownBlock ∧ some k_ ≠ (.slice Ao35 y217.length co35 : Value).ownBlock ∧ some k_ ≠ (.slice Ao34 y223.length co34 : Value).ownBlock ∧ some k_ ≠ (.slice Ao33 y229.length co33 : Value).ownBlock) (fun k_ => some k_ = (.slice Ao49 y237.length co49 : Value).ownBlock) (by rfl) (by rfl) ?aP (fun k_ hk_ => ((Kd.R_mono (ok' := fun k_ => ((fun k_ => some k_ ≠ (.slice Ao36 y211.length co36 : Value).ownBlock ∧ some k_ ≠ (.slice Ao35 y217.length co35 : Value).ownBlock ∧ some k_ ≠ (.slice Ao34 y223.length co34 : Value).ownBlock ∧ some k_ ≠ (.slice Ao33 y229.length co33 : Value).ownBlock)) k_ ∧ some k_ ≠ (u233001 : Value).ownBlock) (Kd.R_apart' (HO239.out) (Kd.S_typed HO_233001.out) (by decide)) (fun k_ hk => ⟨⟨hk.1.1, ⟨hk.1.2.1, ⟨hk.1.2.2.1, hk.1.2.2.2⟩⟩⟩, hk.2⟩))).1 k_ hk_.symm) ?aF ?aO ?aB ?aS ?aL ?_
     (case aP => exact Kd.M_row (Kd.R_mono (Kd.R_tight rfl (Kd.R_mono (ok' := fun k_ => ((fun k_ => some k_ ≠ (.slice Ao36 y211.length co36 : Value).ownBlock ∧ some k_ ≠ (.slice Ao35 y217.length co35 : Value).ownBlock ∧ some k_ ≠ (.slice Ao34 y223.length co34 : Value).ownBlock ∧ some k_ ≠ (.slice Ao33 y229.length co33 : Value).ownBlock)) k_ ∧ some k_ ≠ (u233001 : Value).ownBlock) (Kd.R_apart' (HO239.out) (Kd.S_typed HO_233001.out) (by decide)) (fun k_ hk => ⟨⟨hk.1.1, ⟨hk.1.2.1, ⟨hk.1.2.2.1, hk.1.2.2.2⟩⟩⟩, hk.2⟩))) (fun _ h_ => h_)))
     (case aB => exact (HB.out))
     (case aF => exact (fun k_ hk => ⟨Kd.fresh' (Kd.R_lt (by exact HO_233002.out)) k_ hk, Kd.fresh' (Kd.R_lt (by exact HO_233003.out)) k_ hk, Kd.fresh' (Kd.R_lt (by exact HO_233004.out)) k_ hk, Kd.fresh' (Kd.R_lt (by exact HO_233005.out)) k_ hk⟩))
     (case aO => exact (by exact Kd.S_mono HO_233001.out (fun k_ hk => ⟨⟨hk.1.1, ⟨hk.1.2.1, ⟨hk.1.2.2.1, hk.1.2.2.2⟩⟩⟩, fun e_ => hk.2 e_⟩)))
     (case aS => exact (below_size (HB.out)))
     (case aL => have := LMc40.out; omega)
     intro v241 w48 ho hb hg hat
     rw [← Ny240.out] at ho
     have n0_ := Aside0.mk (Kd.R_over' (by exact HO_233002.out) (Kd.S_typed (by exact HO_233001.out)) (by decide) hg)
     have n1_ := Aside0.mk (Kd.R_over' (by exact HO_233003.out) (Kd.S_typed (by exact HO_233001.out)) (by decide) hg)
     have n2_ := Aside0.mk (Kd.R_over' (by exact HO_233004.out) (Kd.S_typed (by exact HO_233001.out)) (by decide) hg)
     have n3_ := Aside0.mk (Kd.R_over' (by exact HO_233005.out) (Kd.S_typed (by exact HO_233001.out)) (by decide) hg)
     have n4_ := Aside0.mk (blk_grown (g := gb206) (o := .cells #[.int .i64 a0_0, .slice (some ad236) l0_1.length c0_1, .slice A0_2 l0_2.length c0_2, .slice A0_3 l0_3.length c0_3, .slice A0_4 l0_4.length c0_4, .slice A0_5 l0_5.length c0_5] 33 (0, 0)) (by exact BK206.out) hg (Kd.S_ne HO_233001.out BK206.out (by decide)))
     have n5_ := Aside0.mk (blk_grown (g := gb207) (o := .cells #[.int .i64 0, .slice none 0 0, .slice none 0 0, .slice none 0 0, .slice none 0 0, .slice none 0 0] 33 (0, 0)) (by exact BK207.out) hg (Kd.S_ne HO_233001.out BK207.out (by decide)))
     have n6_ := Aside0.mk (blk_grown (g := gb232) (o := .cells #[.int .i64 a0_0, u233001, .slice Ao36 y211.length co36, .slice Ao35 y217.length co35, .slice Ao34 y223.length co34, .slice Ao33 y229.length co33] 33 (0, 0)) (by exact BK232.out) hg (Kd.S_ne HO_233001.out BK232.out (by decide)))
     have n7_ := Aside0.mk (hb)
     have n8_ := Aside0.mk (ho)
     clear HO_233002 HO_233003 HO_233004 HO_233005 BK206 BK207 BK232 HB HO_233001 HO239
     have HO_233002 := n0_
     have HO_233003 := n1_
     have HO_233004 := n2_
     have HO_233005 := n3_
     have BK206 := n4_
     have BK207 := n5_
     have BK232 := n6_
     have HB := n7_
     have HO242 := n8_
     clear n0_ n1_ n2_ n3_ n4_ n5_ n6_ n7_ n8_ ho hb hg hat
     obtain ⟨Ao50, co50, eo50⟩ := Kd.S_slice HO242.out
     (subst eo50)
     refine hK.out _ _ ⟨(blk_cell BK232.out 0).trans rfl, (blk_cell BK232.out 1).trans rfl, (blk_cell BK232.out 2).trans rfl, (blk_cell BK232.out 3).trans rfl, (blk_cell BK232.out 4).trans rfl, (blk_cell BK232.out 5).trans rfl, (blk_cell BK206.out 0).trans rfl, (blk_cell BK206.out 1).trans rfl, (blk_cell BK206.out 2).trans rfl, (blk_cell BK206.out 3).trans rfl, (blk_cell BK206.out 4).trans rfl, (blk_cell BK206.out 5).trans rfl, ((HB.out.cell (World.block_lt_of_cell? w _ hw236_0)).trans hw236_0)⟩ (fun hHeld => ?_)
     clear hK K
     refine norm_ (a' := ?_) ?_ ?_
     rotate_left
     ·show Act.put _ (some 41) _ = _
      simp only [Act.put, List.setIfInBounds_toArray, List.set_cons_zero, List.set_cons_succ, i64_w, i32_w]
      rfl
     refine pure_ (i := 11) (N := some 42) (v := ?_) (a' := ?_) #[true, true, true, true, true, true, true, true, true, true, true, true, false] rfl rfl (any_of HT_.out (by kernel_rfl)) (fun _ _ _ h => h) (Or.inl ⟨by rfl, ?_⟩) ?_ ?_
     rotate_left
     ·intro w'
      go_simp
      with_reducible rfl
     rotate_left
     ·simp only [Act.put, List.setIfInBounds_toArray, List.set_cons_zero, List.set_cons_succ, i64_w, i32_w]
      rfl
     refine last_ (i := 12) (N := none) #[true, true, true, true, true, true, true, true, true, true, true, true, true] rfl rfl (one_of HT_.out (by kernel_rfl)) (by decide) (fun K hK => ?_)
     have hs51 : w48.cell? ⟨gb232, 1, none⟩ = some (u233001) := (blk_cell BK232.out 1).trans rfl
     have hfs51 := blk_frozen BK232.out 1
     have hns51_0 := NB206_232.out
     have hns51_1 := NB207_232.out
     have hms51_0 := NB232_206.out
     have hms51_1 := NB232_207.out
     refine skip_ (w1 := ?_) (by rfl) rfl ?_ ?_
     rotate_left
     ·go_simp
      rfl
     refine hK.out _ _ ?_
     clear hK K
     refine done_ (done_of HT_.out (by kernel_rfl)) ?_
     go_wp2
     go_roundg k1
     case measure => have := HK1.out; omega
     case rel => exact ⟨(wrap64 (x4_1 + 1)), (y240), (.slice Ao50 y240.length co50), (by rfl), H', ⟨by have := HK1.out; omega⟩, ⟨by (with_reducible repeat (first | apply Kd.S_alloc | apply Kd.S_drewN | apply Kd.S_drew)); exact Kd.S_mono (Kd.S_far (p := ⟨gb232, 1, none⟩) (Kd.S_types HO242.out BK232.out (by decide)) (fun _ hk => hk.2) (.slice Ao50 y240.length co50)) (fun _ hk => ⟨hk.1.1, ⟨hk.1.2.1, ⟨hk.1.2.2.1, hk.1.2.2.2⟩⟩⟩)⟩, ⟨by (with_reducible repeat (first | apply Kd.R_alloc | apply Kd.R_drewN | apply Kd.R_drew)); exact Kd.R_mono (Kd.R_far (p := ⟨gb232, 1, none⟩) (Kd.R_types HO_233002.out BK232.out (by decide)) (fun _ hk => hk.2) (.slice Ao50 y240.length co50)) (fun _ hk => ⟨hk.1.1.1, ⟨hk.1.1.2.1, hk.1.1.2.2⟩⟩)⟩, ⟨by (with_reducible repeat (first | apply Kd.R_alloc | apply Kd.R_drewN | apply Kd.R_drew)); exact Kd.R_mono (Kd.R_far (p := ⟨gb232, 1, none⟩) (Kd.R_types HO_233003.out BK232.out (by decide)) (fun _ hk => hk.2) (.slice Ao50 y240.length co50)) (fun _ hk => ⟨hk.1.1.1, ⟨hk.1.1.2.1, hk.1.1.2.2⟩⟩)⟩, ⟨by (with_reducible repeat (first | apply Kd.R_alloc | apply Kd.R_drewN | apply Kd.R_drew)); exact Kd.R_mono (Kd.R_far (p := ⟨gb232, 1, none⟩) (Kd.R_types HO_233004.out BK232.out (by decide)) (fun _ hk => hk.2) (.slice Ao50 y240.length co50)) (fun _ hk => ⟨hk.1.1.1, ⟨hk.1.1.2.1, hk.1.1.2.2⟩⟩)⟩, ⟨by (with_reducible repeat (first | apply Kd.R_alloc | apply Kd.R_drewN | apply Kd.R_drew)); exact Kd.R_mono (Kd.R_far (p := ⟨gb232, 1, none⟩) (Kd.R_types HO_233005.out BK232.out (by decide)) (fun _ hk => hk.2) (.slice Ao50 y240.length co50)) (fun _ hk => ⟨hk.1.1.1, ⟨hk.1.1.2.1, hk.1.1.2.2⟩⟩)⟩, ⟨by (with_reducible repeat (first | refine blk_drewN ?_ _ | refine blk_drew ?_ | refine blk_alloc ?_ _)); refine blk_far ?_ NB206_232.out _; (with_reducible repeat (first | refine blk_drewN ?_ _ | refine blk_drew ?_ | refine blk_alloc ?_ _)); exact BK206.out⟩, ⟨by (with_reducible repeat (first | refine blk_drewN ?_ _ | refine blk_drew ?_ | refine blk_alloc ?_ _)); refine blk_far ?_ NB207_232.out _; (with_reducible repeat (first | refine blk_drewN ?_ _ | refine blk_drew ?_ | refine blk_alloc ?_ _)); exact BK207.out⟩, ⟨by (with_reducible repeat (first | refine blk_drewN ?_ _ | refine blk_drew ?_ | refine blk_alloc ?_ _)); refine blk_put (cs := #[.int .i64 a0_0, u233001, .slice Ao36 y211.length co36, .slice Ao35 y217.length co35, .slice Ao34 y223.length co34, .slice Ao33 y229.length co33]) ?_ 1 _ rfl; (with_reducible repeat (first | refine blk_drewN ?_ _ | refine blk_drew ?_ | refine blk_alloc ?_ _)); exact BK232.out⟩, ⟨by repeat ((with_reducible first | exact HB.out | refine below_set ?_ GE232.out))⟩⟩
    rw [if_neg c37] at H
    have c37b0 : decide (x4_1 < (l0_1.length : Int)) = false := decide_eq_false c37
    clear c37
    simp only [Option.some.injEq, Prod.mk.injEq] at H
    obtain ⟨rfl, rfl, rfl, rfl, rfl, rfl⟩ := H
    have hnb52 := NB206_207.out
    have hnc52 := NB207_206.out
    have hnb53 := NB206_232.out
    have hnc53 := NB232_206.out
    have hcz54_0 : wr.cell? ⟨gb206, 0, none⟩ = some (.int .i64 a0_0) := (blk_cell BK206.out 0).trans rfl
    have hcz54_1 : wr.cell? ⟨gb206, 1, none⟩ = some (.slice A0_1 l0_1.length c0_1) := (blk_cell BK206.out 1).trans rfl
    have hcz54_2 : wr.cell? ⟨gb206, 2, none⟩ = some (.slice A0_2 l0_2.length c0_2) := (blk_cell BK206.out 2).trans rfl
    have hcz54_3 : wr.cell? ⟨gb206, 3, none⟩ = some (.slice A0_3 l0_3.length c0_3) := (blk_cell BK206.out 3).trans rfl
    have hcz54_4 : wr.cell? ⟨gb206, 4, none⟩ = some (.slice A0_4 l0_4.length c0_4) := (blk_cell BK206.out 4).trans rfl
    have hcz54_5 : wr.cell? ⟨gb206, 5, none⟩ = some (.slice A0_5 l0_5.length c0_5) := (blk_cell BK206.out 5).trans rfl
    have hfz54_0 := blk_frozen BK206.out 0
    have hfz54_1 := blk_frozen BK206.out 1
    have hfz54_2 := blk_frozen BK206.out 2
    have hfz54_3 := blk_frozen BK206.out 3
    have hfz54_4 := blk_frozen BK206.out 4
    have hfz54_5 := blk_frozen BK206.out 5
    have hnb55 := NB232_207.out
    have hnc55 := NB207_232.out
    have hcz56_0 : wr.cell? ⟨gb232, 0, none⟩ = some (.int .i64 a0_0) := (blk_cell BK232.out 0).trans rfl
    have hcz56_1 : wr.cell? ⟨gb232, 1, none⟩ = some (u233001) := (blk_cell BK232.out 1).trans rfl
    have hcz56_2 : wr.cell? ⟨gb232, 2, none⟩ = some (.slice Ao36 y211.length co36) := (blk_cell BK232.out 2).trans rfl
    have hcz56_3 : wr.cell? ⟨gb232, 3, none⟩ = some (.slice Ao35 y217.length co35) := (blk_cell BK232.out 3).trans rfl
    have hcz56_4 : wr.cell? ⟨gb232, 4, none⟩ = some (.slice Ao34 y223.length co34) := (blk_cell BK232.out 4).trans rfl
    have hcz56_5 : wr.cell? ⟨gb232, 5, none⟩ = some (.slice Ao33 y229.length co33) := (blk_cell BK232.out 5).trans rfl
    have hfz56_0 := blk_frozen BK232.out 0
    have hfz56_1 := blk_frozen BK232.out 1
    have hfz56_2 := blk_frozen BK232.out 2
    have hfz56_3 := blk_frozen BK232.out 3
    have hfz56_4 := blk_frozen BK232.out 4
    have hfz56_5 := blk_frozen BK232.out 5
    have hcz57_0 : wr.cell? ⟨gb207, 0, none⟩ = some (.int .i64 0) := (blk_cell BK207.out 0).trans rfl
    have hcz57_1 : wr.cell? ⟨gb207, 1, none⟩ = some (.slice none 0 0) := (blk_cell BK207.out 1).trans rfl
    have hcz57_2 : wr.cell? ⟨gb207, 2, none⟩ = some (.slice none 0 0) := (blk_cell BK207.out 2).trans rfl
    have hcz57_3 : wr.cell? ⟨gb207, 3, none⟩ = some (.slice none 0 0) := (blk_cell BK207.out 3).trans rfl
    have hcz57_4 : wr.cell? ⟨gb207, 4, none⟩ = some (.slice none 0 0) := (blk_cell BK207.out 4).trans rfl
    have hcz57_5 : wr.cell? ⟨gb207, 5, none⟩ = some (.slice none 0 0) := (blk_cell BK207.out 5).trans rfl
    have hfz57_0 := blk_frozen BK207.out 0
    have hfz57_1 := blk_frozen BK207.out 1
    have hfz57_2 := blk_frozen BK207.out 2
    have hfz57_3 := blk_frozen BK207.out 3
    have hfz57_4 := blk_frozen BK207.out 4
    have hfz57_5 := blk_frozen BK207.out 5
    obtain ⟨Ao58, co58, eo58⟩ := Kd.S_slice HO_233001.out
    subst eo58
    go_wp2
    refine bodyPost_ret (results_cell_row rfl _ _ gb207 33 #[.int .i64 a0_0, .slice Ao58 x233001_1.length co58, .slice Ao36 y211.length co36, .slice Ao35 y217.length co35, .slice Ao34 y223.length co34, .slice Ao33 y229.length co33] (0, 0) _ rfl (by refine blk_put (cs := #[.int .i64 a0_0, .slice Ao58 x233001_1.length co58, .slice Ao36 y211.length co36, .slice Ao35 y217.length co35, .slice Ao34 y223.length co34, .slice none 0 0]) ?_ 5 _ rfl; (with_reducible repeat (first | refine blk_drewN ?_ _ | refine blk_drew ?_ | refine blk_alloc ?_ _)); refine blk_put (cs := #[.int .i64 a0_0, .slice Ao58 x233001_1.length co58, .slice Ao36 y211.length co36, .slice Ao35 y217.length co35, .slice none 0 0, .slice none 0 0]) ?_ 4 _ rfl; (with_reducible repeat (first | refine blk_drewN ?_ _ | refine blk_drew ?_ | refine blk_alloc ?_ _)); refine blk_put (cs := #[.int .i64 a0_0, .slice Ao58 x233001_1.length co58, .slice Ao36 y211.length co36, .slice none 0 0, .slice none 0 0, .slice none 0 0]) ?_ 3 _ rfl; (with_reducible repeat (first | refine blk_drewN ?_ _ | refine blk_drew ?_ | refine blk_alloc ?_ _)); refine blk_put (cs := #[.int .i64 a0_0, .slice Ao58 x233001_1.length co58, .slice none 0 0, .slice none 0 0, .slice none 0 0, .slice none 0 0]) ?_ 2 _ rfl; (with_reducible repeat (first | refine blk_drewN ?_ _ | refine blk_drew ?_ | refine blk_alloc ?_ _)); refine blk_put (cs := #[.int .i64 a0_0, .slice none 0 0, .slice none 0 0, .slice none 0 0, .slice none 0 0, .slice none 0 0]) ?_ 1 _ rfl; (with_reducible repeat (first | refine blk_drewN ?_ _ | refine blk_drew ?_ | refine blk_alloc ?_ _)); refine blk_put (cs := #[.int .i64 0, .slice none 0 0, .slice none 0 0, .slice none 0 0, .slice none 0 0, .slice none 0 0]) ?_ 0 _ rfl; (with_reducible repeat (first | refine blk_drewN ?_ _ | refine blk_drew ?_ | refine blk_alloc ?_ _)); exact BK207.out) Try.underlying33 rfl (by kernel_rfl)) rfl ?_
    exact ⟨_, _, _, _, _, by rfl, by (with_reducible repeat (first | apply Kd.S_alloc | apply Kd.S_drewN | apply Kd.S_drew)); exact Kd.S_mono (Kd.S_far (p := ⟨gb207, 5, none⟩) (Kd.S_far (p := ⟨gb207, 4, none⟩) (Kd.S_far (p := ⟨gb207, 3, none⟩) (Kd.S_far (p := ⟨gb207, 2, none⟩) (Kd.S_far (p := ⟨gb207, 1, none⟩) (Kd.S_far (p := ⟨gb207, 0, none⟩) (Kd.S_types HO_233001.out BK207.out (by decide)) (fun _ hk => hk.2) (.int .i64 a0_0)) (fun _ hk => hk.2) (.slice Ao58 x233001_1.length co58)) (fun _ hk => hk.2) (.slice Ao36 y211.length co36)) (fun _ hk => hk.2) (.slice Ao35 y217.length co35)) (fun _ hk => hk.2) (.slice Ao34 y223.length co34)) (fun _ hk => hk.2) (.slice Ao33 y229.length co33)) (fun _ hk => ⟨hk.1.1, ⟨hk.1.2.1, ⟨hk.1.2.2.1, hk.1.2.2.2⟩⟩⟩), by (with_reducible repeat (first | apply Kd.R_alloc | apply Kd.R_drewN | apply Kd.R_drew)); exact Kd.R_mono (Kd.R_far (p := ⟨gb207, 5, none⟩) (Kd.R_far (p := ⟨gb207, 4, none⟩) (Kd.R_far (p := ⟨gb207, 3, none⟩) (Kd.R_far (p := ⟨gb207, 2, none⟩) (Kd.R_far (p := ⟨gb207, 1, none⟩) (Kd.R_far (p := ⟨gb207, 0, none⟩) (Kd.R_types HO_233002.out BK207.out (by decide)) (fun _ hk => hk.2) (.int .i64 a0_0)) (fun _ hk => hk.2) (.slice Ao58 x233001_1.length co58)) (fun _ hk => hk.2) (.slice Ao36 y211.length co36)) (fun _ hk => hk.2) (.slice Ao35 y217.length co35)) (fun _ hk => hk.2) (.slice Ao34 y223.length co34)) (fun _ hk => hk.2) (.slice Ao33 y229.length co33)) (fun _ hk => ⟨hk.1.1, ⟨hk.1.2.1, hk.1.2.2⟩⟩), by (with_reducible repeat (first | apply Kd.R_alloc | apply Kd.R_drewN | apply Kd.R_drew)); exact Kd.R_mono (Kd.R_far (p := ⟨gb207, 5, none⟩) (Kd.R_far (p := ⟨gb207, 4, none⟩) (Kd.R_far (p := ⟨gb207, 3, none⟩) (Kd.R_far (p := ⟨gb207, 2, none⟩) (Kd.R_far (p := ⟨gb207, 1, none⟩) (Kd.R_far (p := ⟨gb207, 0, none⟩) (Kd.R_types HO_233003.out BK207.out (by decide)) (fun _ hk => hk.2) (.int .i64 a0_0)) (fun _ hk => hk.2) (.slice Ao58 x233001_1.length co58)) (fun _ hk => hk.2) (.slice Ao36 y211.length co36)) (fun _ hk => hk.2) (.slice Ao35 y217.length co35)) (fun _ hk => hk.2) (.slice Ao34 y223.length co34)) (fun _ hk => hk.2) (.slice Ao33 y229.length co33)) (fun _ hk => ⟨hk.1.1, ⟨hk.1.2.1, hk.1.2.2⟩⟩), by (with_reducible repeat (first | apply Kd.R_alloc | apply Kd.R_drewN | apply Kd.R_drew)); exact Kd.R_mono (Kd.R_far (p := ⟨gb207, 5, none⟩) (Kd.R_far (p := ⟨gb207, 4, none⟩) (Kd.R_far (p := ⟨gb207, 3, none⟩) (Kd.R_far (p := ⟨gb207, 2, none⟩) (Kd.R_far (p := ⟨gb207, 1, none⟩) (Kd.R_far (p := ⟨gb207, 0, none⟩) (Kd.R_types HO_233004.out BK207.out (by decide)) (fun _ hk => hk.2) (.int .i64 a0_0)) (fun _ hk => hk.2) (.slice Ao58 x233001_1.length co58)) (fun _ hk => hk.2) (.slice Ao36 y211.length co36)) (fun _ hk => hk.2) (.slice Ao35 y217.length co35)) (fun _ hk => hk.2) (.slice Ao34 y223.length co34)) (fun _ hk => hk.2) (.slice Ao33 y229.length co33)) (fun _ hk => ⟨hk.1.1, ⟨hk.1.2.1, hk.1.2.2⟩⟩), by (with_reducible repeat (first | apply Kd.R_alloc | apply Kd.R_drewN | apply Kd.R_drew)); exact Kd.R_mono (Kd.R_far (p := ⟨gb207, 5, none⟩) (Kd.R_far (p := ⟨gb207, 4, none⟩) (Kd.R_far (p := ⟨gb207, 3, none⟩) (Kd.R_far (p := ⟨gb207, 2, none⟩) (Kd.R_far (p := ⟨gb207, 1, none⟩) (Kd.R_far (p := ⟨gb207, 0, none⟩) (Kd.R_types HO_233005.out BK207.out (by decide)) (fun _ hk => hk.2) (.int .i64 a0_0)) (fun _ hk => hk.2) (.slice Ao58 x233001_1.length co58)) (fun _ hk => hk.2) (.slice Ao36 y211.length co36)) (fun _ hk => hk.2) (.slice Ao35 y217.length co35)) (fun _ hk => hk.2) (.slice Ao34 y223.length co34)) (fun _ hk => hk.2) (.slice Ao33 y229.length co33)) (fun _ hk => ⟨hk.1.1, ⟨hk.1.2.1, hk.1.2.2⟩⟩), by repeat ((with_reducible first | exact HB.out | refine below_set ?_ GE207.out))⟩
 ·rw [if_neg c2] at H
  exact absurd H (by simp)
end Go.Proofs.Ytjbjofmcmjojlaa.Wk
end
section
namespace Go.Proofs.Ytjbjofmcmjojlaa.Wk
open Go.RowKit Go.Proofs.YtjbjofmcmjojlaaW.PrintWords Go.Proofs.YtjbjofmcmjojlaaW.PrintLast Go.Proofs.YtjbjofmcmjojlaaW.PrintMore
attribute [local go_sem] max2_int min2_int max_two min_two max_three min_three max_four min_four
set_option linter.unusedVariables false
set_option linter.unusedSimpArgs false
theorem rdL1_getD (xs : List (List Int)) (i : Int) (h0 : 0 ≤ i) (h1 : i < xs.length) : xs.getD i.toNat [] = rd_L1 xs i := by
  obtain ⟨n, rfl⟩ := Int.eq_ofNat_of_zero_le h0
  simp [rd_L1]
theorem S_row {W : World} {base n : Nat} {ok : Nat → Prop} {ad : Addr} {cap : Nat} {xs : List (List Int)} (h : Kd.S (Kd.slice 3 (Kd.int .i64)) 22 W base ok (.slice (some ad) n cap) xs) (i : Int) (h0 : 0 ≤ i) (h1 : i < (n : Int)) :
    ∃ A c, W.cell? (ad.add i.toNat) = some (.slice A (rd_L1 xs i).length c) ∧ ∀ j : Int, 0 ≤ j → j < ((rd_L1 xs i).length : Int) → ∃ g, A = some ⟨g, 0, none⟩ ∧ (∃ u : Value, W.cell? ⟨g, j.toNat, none⟩ = some u) ∧ W.frozen? ⟨g, j.toNat, none⟩ = false ∧ ok g ∧ base ≤ g ∧
      ∀ u : Int, Kd.S (Kd.slice 3 (Kd.int .i64)) 22 (W.setCell ⟨g, j.toNat, none⟩ (.int .i64 u)) base ok (.slice (some ad) n cap) (xs.set i.toNat ((rd_L1 xs i).set j.toNat u)) := by
  obtain ⟨oki, ce, hcl, hM, hcc, hok, hbk⟩ := Kd.S_borrow h ([] : List Int) i h0 h1
  have hn := (Kd.S_reads' h).1
  rw [rdL1_getD xs i h0 (by omega)] at hM
  obtain ⟨v, rfl, hR⟩ := hM
  have hc0 := hcc 0 v rfl
  simp only [Nat.add_zero, Kd.slice, Nat.mul_one] at hc0
  obtain ⟨A, c, rfl⟩ := Kd.R_slice hR
  refine ⟨A, c, hc0, fun j j0 j1 => ?_⟩
  obtain ⟨ad', he, _⟩ := (Kd.R_reads' hR).2.2.2.2 (by omega)
  subst he
  obtain ⟨g, rfl⟩ := Kd.R_head hR
  have hcell := Kd.R_celln 0 hR j j0 j1
  refine ⟨g, rfl, ⟨_, hcell.1⟩, hcell.2, (hok g (hR.1 g rfl)).1, Kd.R_base hR g rfl, fun u => ?_⟩
  have hp := Kd.R_putg hR j u
  exact hbk hp.2 (fun k e => by injection e with e; subst e; exact hR.1 _ rfl) (Kd.M_row hp.1)
theorem lens_rd {T T' : List (List Int)} (h : T'.map List.length = T.map List.length) (i : Int) : (rd_L1 T' i).length = (rd_L1 T i).length := by
  have hl : T'.length = T.length := by simpa using congrArg List.length h
  simp only [rd_L1]
  have := congrArg (fun l => l.getD i.toNat 0) h
  simp only [List.getD_eq_getElem?_getD, List.getElem?_map] at this ⊢
  cases h1 : T'[i.toNat]? <;> cases h2 : T[i.toNat]? <;> simp_all
theorem lens_set {T T' : List (List Int)} (h : T'.map List.length = T.map List.length) (i j : Int) (u : Int) (h0 : 0 ≤ i) (h1 : i < (T.length : Int)) : (T'.set i.toNat ((rd_L1 T' i).set j.toNat u)).map List.length = T.map List.length := by
  have hl : T'.length = T.length := by simpa using congrArg List.length h
  rw [List.map_set, ← h]
  apply List.ext_getElem
  · simp
  · intro q q1 q2
    rw [List.getElem_set]
    split
    · rename_i e
      subst e
      rw [List.length_set, ← rdL1_getD T' i h0 (by omega)]
      have : i.toNat < T'.length := by omega
      simp [List.getD_eq_getElem?_getD, this]
    · rfl
structure SelC (W : World) (A1_1 : Option Addr) (c1_1 : Nat) (l1_1 : List (List Int)) (A1_2 : Option Addr) (c1_2 : Nat) (l1_2 : List Int) (A1_3 : Option Addr) (c1_3 : Nat) (l1_3 : List Int) (A1_4 : Option Addr) (c1_4 : Nat) (l1_4 : List Int) (A1_5 : Option Addr) (c1_5 : Nat) (l1_5 : List Int) : Prop where
  h1 : Kd.C (Kd.slice 3 (Kd.int .i64)) W A1_1 l1_1.length l1_1
  k1 : l1_1.length ≤ c1_1
  h2 : Kd.C (Kd.int .i64) W A1_2 l1_2.length l1_2
  k2 : l1_2.length ≤ c1_2
  h3 : Kd.C (Kd.int .i64) W A1_3 l1_3.length l1_3
  k3 : l1_3.length ≤ c1_3
  h4 : Kd.C (Kd.int .i64) W A1_4 l1_4.length l1_4
  k4 : l1_4.length ≤ c1_4
  h5 : Kd.C (Kd.int .i64) W A1_5 l1_5.length l1_5
  k5 : l1_5.length ≤ c1_5
structure SelF (W : World) (ok : Nat → Prop) (A1_1 : Option Addr) (c1_1 : Nat) (l1_1 : List (List Int)) (A1_2 : Option Addr) (c1_2 : Nat) (l1_2 : List Int) (A1_3 : Option Addr) (c1_3 : Nat) (l1_3 : List Int) (A1_4 : Option Addr) (c1_4 : Nat) (l1_4 : List Int) (A1_5 : Option Addr) (c1_5 : Nat) (l1_5 : List Int) : Prop where
  h1 : Kd.F (Kd.slice 3 (Kd.int .i64)) W ok A1_1 l1_1.length l1_1
  k1 : l1_1.length ≤ c1_1
  h2 : Kd.F (Kd.int .i64) W ok A1_2 l1_2.length l1_2
  k2 : l1_2.length ≤ c1_2
  h3 : Kd.F (Kd.int .i64) W ok A1_3 l1_3.length l1_3
  k3 : l1_3.length ≤ c1_3
  h4 : Kd.F (Kd.int .i64) W ok A1_4 l1_4.length l1_4
  k4 : l1_4.length ≤ c1_4
  h5 : Kd.F (Kd.int .i64) W ok A1_5 l1_5.length l1_5
  k5 : l1_5.length ≤ c1_5
section
variable {W W' : World} {ok ok' : Nat → Prop} {A1_1 : Option Addr} {c1_1 : Nat} {l1_1 : List (List Int)} {A1_2 : Option Addr} {c1_2 : Nat} {l1_2 : List Int} {A1_3 : Option Addr} {c1_3 : Nat} {l1_3 : List Int} {A1_4 : Option Addr} {c1_4 : Nat} {l1_4 : List Int} {A1_5 : Option Addr} {c1_5 : Nat} {l1_5 : List Int}
theorem SelC.below (h : SelC W A1_1 c1_1 l1_1 A1_2 c1_2 l1_2 A1_3 c1_3 l1_3 A1_4 c1_4 l1_4 A1_5 c1_5 l1_5) (hb : Below W.heap.size W W') : SelC W' A1_1 c1_1 l1_1 A1_2 c1_2 l1_2 A1_3 c1_3 l1_3 A1_4 c1_4 l1_4 A1_5 c1_5 l1_5 := ⟨Kd.C_below h.h1 hb, h.k1, Kd.C_below h.h2 hb, h.k2, Kd.C_below h.h3 hb, h.k3, Kd.C_below h.h4 hb, h.k4, Kd.C_below h.h5 hb, h.k5⟩
theorem SelC.foot (h : SelC W A1_1 c1_1 l1_1 A1_2 c1_2 l1_2 A1_3 c1_3 l1_3 A1_4 c1_4 l1_4 A1_5 c1_5 l1_5) : SelF W (fun k => k < W.heap.size) A1_1 c1_1 l1_1 A1_2 c1_2 l1_2 A1_3 c1_3 l1_3 A1_4 c1_4 l1_4 A1_5 c1_5 l1_5 := ⟨Kd.C_F (Kd.heap_slice 3 (Kd.heap_int .i64)) h.h1, h.k1, Kd.C_F (Kd.heap_int .i64) h.h2, h.k2, Kd.C_F (Kd.heap_int .i64) h.h3, h.k3, Kd.C_F (Kd.heap_int .i64) h.h4, h.k4, Kd.C_F (Kd.heap_int .i64) h.h5, h.k5⟩
theorem SelF.now (h : SelF W ok A1_1 c1_1 l1_1 A1_2 c1_2 l1_2 A1_3 c1_3 l1_3 A1_4 c1_4 l1_4 A1_5 c1_5 l1_5) : SelC W A1_1 c1_1 l1_1 A1_2 c1_2 l1_2 A1_3 c1_3 l1_3 A1_4 c1_4 l1_4 A1_5 c1_5 l1_5 := ⟨Kd.F_now h.h1, h.k1, Kd.F_now h.h2, h.k2, Kd.F_now h.h3, h.k3, Kd.F_now h.h4, h.k4, Kd.F_now h.h5, h.k5⟩
theorem SelF.mono (h : SelF W ok A1_1 c1_1 l1_1 A1_2 c1_2 l1_2 A1_3 c1_3 l1_3 A1_4 c1_4 l1_4 A1_5 c1_5 l1_5) (hok : ∀ k, ok k → ok' k) : SelF W ok' A1_1 c1_1 l1_1 A1_2 c1_2 l1_2 A1_3 c1_3 l1_3 A1_4 c1_4 l1_4 A1_5 c1_5 l1_5 := ⟨Kd.F_mono h.h1 hok, h.k1, Kd.F_mono h.h2 hok, h.k2, Kd.F_mono h.h3 hok, h.k3, Kd.F_mono h.h4 hok, h.k4, Kd.F_mono h.h5 hok, h.k5⟩
theorem SelF.step (h : SelF W ok A1_1 c1_1 l1_1 A1_2 c1_2 l1_2 A1_3 c1_3 l1_3 A1_4 c1_4 l1_4 A1_5 c1_5 l1_5) (hm : ∀ k, ok k → k < W.heap.size → W'.heap[k]? = W.heap[k]?) : SelF W' ok A1_1 c1_1 l1_1 A1_2 c1_2 l1_2 A1_3 c1_3 l1_3 A1_4 c1_4 l1_4 A1_5 c1_5 l1_5 := ⟨Kd.F_step h.h1 hm, h.k1, Kd.F_step h.h2 hm, h.k2, Kd.F_step h.h3 hm, h.k3, Kd.F_step h.h4 hm, h.k4, Kd.F_step h.h5 hm, h.k5⟩
end
theorem sel_cells {W : World} {g : Nat} {a b c d e f : Value} (h : W.heap[g]? = some (.cells #[a, b, c, d, e, f] 33 (0, 0))) :
    (W.cell? ⟨g, 0, none⟩ = some a ∧ W.cell? ⟨g, 1, none⟩ = some b ∧ W.cell? ⟨g, 2, none⟩ = some c ∧ W.cell? ⟨g, 3, none⟩ = some d ∧ W.cell? ⟨g, 4, none⟩ = some e ∧ W.cell? ⟨g, 5, none⟩ = some f) :=
  ⟨(blk_cell h 0).trans rfl, (blk_cell h 1).trans rfl, (blk_cell h 2).trans rfl, (blk_cell h 3).trans rfl, (blk_cell h 4).trans rfl, (blk_cell h 5).trans rfl⟩
theorem sel_put {W : World} {g : Nat} {cs : Array Value} {a b c d e f : Value} (h : W.heap[g]? = some (.cells cs 33 (0, 0))) (hn : cs.size = 6) :
    ((((((W.setCell ⟨g, 0, none⟩ a).setCell ⟨g, 1, none⟩ b).setCell ⟨g, 2, none⟩ c).setCell ⟨g, 3, none⟩ d).setCell ⟨g, 4, none⟩ e).setCell ⟨g, 5, none⟩ f).heap[g]? = some (.cells #[a, b, c, d, e, f] 33 (0, 0)) := by
  obtain ⟨l⟩ := cs
  match l, hn with
  | [x0, x1, x2, x3, x4, x5], _ => exact blk_put (blk_put (blk_put (blk_put (blk_put (blk_put h 0 a rfl) 1 b rfl) 2 c rfl) 3 d rfl) 4 e rfl) 5 f rfl
theorem below_put6 {B : Nat} {W0 W : World} {g : Nat} {a b c d e f : Value} (h : Below B W0 W) (hg : B ≤ g) :
    Below B W0 ((((((W.setCell ⟨g, 0, none⟩ a).setCell ⟨g, 1, none⟩ b).setCell ⟨g, 2, none⟩ c).setCell ⟨g, 3, none⟩ d).setCell ⟨g, 4, none⟩ e).setCell ⟨g, 5, none⟩ f) :=
  (((((h.setCell (p := ⟨g, 0, none⟩) hg a).setCell (p := ⟨g, 1, none⟩) hg b).setCell (p := ⟨g, 2, none⟩) hg c).setCell (p := ⟨g, 3, none⟩) hg d).setCell (p := ⟨g, 4, none⟩) hg e).setCell (p := ⟨g, 5, none⟩) hg f
def slabvaultlaw12_SpaceTuples.f (k : Nat) (l0 : List Int) (a1_0 : Int) (l1_1 : List (List Int)) (l1_2 l1_3 l1_4 l1_5 : List Int) : Option Bool :=
  (slabvaultlaw12_great.f k a1_0 l1_1 l1_2 l1_3 l1_4 l1_5).bind fun g => if g = true then slabvaultlaw12_lives.f k else
  (slabvaultlaw12_own.f k a1_0 l1_1 l1_2 l1_3 l1_4 l1_5).bind fun x => (space_Tuples.f k l0 x.1 x.2.1 x.2.2.1 x.2.2.2.1 x.2.2.2.2.1 x.2.2.2.2.2).bind fun l =>
  (slabvaultref12_Tuples.f k l0 a1_0 l1_1 l1_2 l1_3 l1_4 l1_5).bind fun q => (slabvaultlaw12_lists.f k l.1 q.1).bind fun t1 => (slabvaultlaw12_alike.f k x.1 x.2.1 x.2.2.1 x.2.2.2.1 x.2.2.2.2.1 x.2.2.2.2.2 a1_0 l1_1 l1_2 l1_3 l1_4 l1_5).bind fun t2 =>
  if t1 = true ∧ l.2 = q.2 ∧ t2 = true ∧ l.1.length ≤ 4096 ∧ (∀ y ∈ l.1, y.length ≤ 4) then slabvaultlaw12_lives.f k else none
set_option maxHeartbeats 8000000 in
set_option maxRecDepth 100000 in
theorem slabvaultlaw12_SpaceTuples.calls (k : Nat) (A0 : Option Addr) (c0 : Nat) (l0 : List Int) (a1_0 : Int) (A1_1 : Option Addr) (c1_1 : Nat) (l1_1 : List (List Int)) (A1_2 : Option Addr) (c1_2 : Nat) (l1_2 : List Int) (A1_3 : Option Addr) (c1_3 : Nat) (l1_3 : List Int) (A1_4 : Option Addr) (c1_4 : Nat) (l1_4 : List Int) (A1_5 : Option Addr) (c1_5 : Nat) (l1_5 : List Int) (r : Bool) (w : World) (hr0 : Kd.C (Kd.int .i64) w A0 l0.length l0) (hc0 : l0.length ≤ c0) (hr1_1 : Kd.C (Kd.slice 3 (Kd.int .i64)) w A1_1 l1_1.length l1_1) (hc1_1 : l1_1.length ≤ c1_1) (hr1_2 : Kd.C (Kd.int .i64) w A1_2 l1_2.length l1_2) (hc1_2 : l1_2.length ≤ c1_2) (hr1_3 : Kd.C (Kd.int .i64) w A1_3 l1_3.length l1_3) (hc1_3 : l1_3.length ≤ c1_3) (hr1_4 : Kd.C (Kd.int .i64) w A1_4 l1_4.length l1_4) (hc1_4 : l1_4.length ≤ c1_4) (hr1_5 : Kd.C (Kd.int .i64) w A1_5 l1_5.length l1_5) (hc1_5 : l1_5.length ≤ c1_5) (h : slabvaultlaw12_SpaceTuples.f k l0 a1_0 l1_1 l1_2 l1_3 l1_4 l1_5 = some r) :
    Calls Try.prog 8 #[.slice A0 l0.length c0, .agg #[.int .i64 a1_0, .slice A1_1 l1_1.length c1_1, .slice A1_2 l1_2.length c1_2, .slice A1_3 l1_3.length c1_3, .slice A1_4 l1_4.length c1_4, .slice A1_5 l1_5.length c1_5]] w fun e w' => e = .returned (.bool r) ∧ Below w.heap.size w w' := by
  unfold slabvaultlaw12_SpaceTuples.f at h
  replace h := Option.bind_eq_some_iff.mp h; obtain ⟨g, hg, h⟩ := h
  have HS := Aside0.mk (SelC.mk hr1_1 hc1_1 hr1_2 hc1_2 hr1_3 hc1_3 hr1_4 hc1_4 hr1_5 hc1_5)
  have HR0 := Aside0.mk hr0
  have HC0 := Aside0.mk hc0
  have HG := Aside0.mk hg
  have HH := Aside0.mk h
  clear hg h hr0 hc0 hr1_1 hc1_1 hr1_2 hc1_2 hr1_3 hc1_3 hr1_4 hc1_4 hr1_5 hc1_5
  have hu33 := Try.underlying33
  go_enter Try.func8, Try.ntmps8
  go_upto_region 1 with (first | ((with_reducible refine gate_dst (N := 3) rfl ?_); refine box_event ?hg (N := 3) ?hd (cs := #[.int .i64 a1_0, .slice A1_1 l1_1.length c1_1, .slice A1_2 l1_2.length c1_2, .slice A1_3 l1_3.length c1_3, .slice A1_4 l1_4.length c1_4, .slice A1_5 l1_5.length c1_5]) (t := 33) ?hr ?_; (case hd => rfl); (case hg => rfl); (case hr => first | (go_simp; done) | (go_simp; rfl)); intro gs hgs w1 hbox hb; have HB := Aside0.mk hb; have BS := Aside0.mk hbox; have GS := Aside0.mk (Nat.le_of_eq hgs.symm); clear hb hbox hgs; obtain ⟨z0, z1, z2, z3, z4, z5⟩ := sel_cells BS.out))
  cases g with
  | true =>
    have HL := Aside0.mk (show slabvaultlaw12_lives.f k = some r by have := HH.out; simpa using this)
    go_wp2_with (first | (go_at_call 14; refine (slabvaultlaw12_great.calls k a1_0 _ _ l1_1 _ _ l1_2 _ _ l1_3 _ _ l1_4 _ _ l1_5 _ _ (HS.out.below HB.out).h1 (HS.out.below HB.out).k1 (HS.out.below HB.out).h2 (HS.out.below HB.out).k2 (HS.out.below HB.out).h3 (HS.out.below HB.out).k3 (HS.out.below HB.out).h4 (HS.out.below HB.out).k4 (HS.out.below HB.out).h5 (HS.out.below HB.out).k5 HG.out).mono ?_; rintro e_ w2 ⟨rfl, hb⟩; have HB2 := Aside0.mk (below_step HB.out hb); have BS2 := Aside0.mk (blk_below BS.out hb); clear hb z0 z1 z2 z3 z4 z5; obtain ⟨z0, z1, z2, z3, z4, z5⟩ := sel_cells BS2.out) | (go_at_call 13; refine (slabvaultlaw12_lives.calls k r _ HL.out).mono ?_; rintro e_ wHB3 ⟨rfl, hb⟩; have HB3 := Aside0.mk (below_step HB2.out hb); clear hb))
    go_ret
    exact ⟨rfl, HB3.out⟩
  | false =>
    have h := HH.out
    simp only [Bool.false_eq_true, if_false] at h
    replace h := Option.bind_eq_some_iff.mp h; obtain ⟨⟨x1, x2, x3, x4, x5, x6⟩, hx, h⟩ := h
    replace h := Option.bind_eq_some_iff.mp h; obtain ⟨⟨T, te⟩, hT, h⟩ := h
    replace h := Option.bind_eq_some_iff.mp h; obtain ⟨⟨Q, qe⟩, hQ, h⟩ := h
    replace h := Option.bind_eq_some_iff.mp h; obtain ⟨t1, h1, h⟩ := h
    replace h := Option.bind_eq_some_iff.mp h; obtain ⟨t2, h2, h⟩ := h
    by_cases hc : t1 = true ∧ te = qe ∧ t2 = true ∧ T.length ≤ 4096 ∧ (∀ y ∈ T, y.length ≤ 4)
    case neg => rw [if_neg hc] at h; cases h
    rw [if_pos hc] at h
    obtain ⟨rfl, rfl, rfl, hT1, hT2⟩ := hc
    have HX := Aside0.mk hx
    have HT := Aside0.mk hT
    have HQ := Aside0.mk hQ
    have H1 := Aside0.mk h1
    have H2 := Aside0.mk h2
    have HL := Aside0.mk h
    have HT1 := Aside0.mk hT1
    have HT2 := Aside0.mk hT2
    clear hx hT hQ h1 h2 h hT1 hT2 HH
    go_upto_region 3 with (first | (go_at_call 14; refine (slabvaultlaw12_great.calls k a1_0 _ _ l1_1 _ _ l1_2 _ _ l1_3 _ _ l1_4 _ _ l1_5 _ _ (HS.out.below HB.out).h1 (HS.out.below HB.out).k1 (HS.out.below HB.out).h2 (HS.out.below HB.out).k2 (HS.out.below HB.out).h3 (HS.out.below HB.out).k3 (HS.out.below HB.out).h4 (HS.out.below HB.out).k4 (HS.out.below HB.out).h5 (HS.out.below HB.out).k5 HG.out).mono ?_; rintro e_ w2 ⟨rfl, hb⟩; have HB2 := Aside0.mk (below_step HB.out hb); have BS2 := Aside0.mk (blk_below BS.out hb); clear hb z0 z1 z2 z3 z4 z5; obtain ⟨z0, z1, z2, z3, z4, z5⟩ := sel_cells BS2.out))
    go_upto_region 4 with (first | (go_at_call 21; refine (slabvaultlaw12_own.calls k a1_0 _ _ l1_1 _ _ l1_2 _ _ l1_3 _ _ l1_4 _ _ l1_5 x1 x2 x3 x4 x5 x6 _ (HS.out.below HB2.out).h1 (HS.out.below HB2.out).k1 (HS.out.below HB2.out).h2 (HS.out.below HB2.out).k2 (HS.out.below HB2.out).h3 (HS.out.below HB2.out).k3 (HS.out.below HB2.out).h4 (HS.out.below HB2.out).k4 (HS.out.below HB2.out).h5 (HS.out.below HB2.out).k5 HX.out).mono ?_; rintro e_ w3 ⟨v1, v2, v3, v4, v5, rfl, o1, o2, o3, o4, o5, hb⟩; obtain ⟨Ax1, cx1, rfl⟩ := Kd.S_slice o1; obtain ⟨Ax2, cx2, rfl⟩ := Kd.R_slice o2; obtain ⟨Ax3, cx3, rfl⟩ := Kd.R_slice o3; obtain ⟨Ax4, cx4, rfl⟩ := Kd.R_slice o4; obtain ⟨Ax5, cx5, rfl⟩ := Kd.R_slice o5; have HXC := Aside0.mk (SelC.mk (Kd.S_reads' o1).2.2 (Kd.S_reads' o1).2.1 (Kd.R_reads' o2).2.2 (Kd.R_reads' o2).2.1 (Kd.R_reads' o3).2.2 (Kd.R_reads' o3).2.1 (Kd.R_reads' o4).2.2 (Kd.R_reads' o4).2.1 (Kd.R_reads' o5).2.2 (Kd.R_reads' o5).2.1); have HB3 := Aside0.mk (below_step HB2.out hb); have BS3 := Aside0.mk (blk_below BS2.out hb); clear hb o1 o2 o3 o4 o5 z0 z1 z2 z3 z4 z5) | ((with_reducible refine gate_dst (N := 5) rfl ?_); refine box_event ?hg (N := 5) ?hd (cs := #[.int .i64 0, .slice none 0 0, .slice none 0 0, .slice none 0 0, .slice none 0 0, .slice none 0 0]) (t := 33) ?hr ?_; (case hd => rfl); (case hg => rfl); (case hr => first | (go_simp; done) | (go_simp; rfl)); intro gx hgx w4 hbox hb; have HB4 := Aside0.mk (below_step HB3.out hb); have BS4 := Aside0.mk (blk_below BS3.out hb); have BX4 := Aside0.mk hbox; have GX := Aside0.mk (show w3.heap.size ≤ gx from Nat.le_of_eq hgx.symm); have HB34 := Aside0.mk hb; have NX := Aside0.mk (show gs ≠ gx from by rw [hgx]; exact Nat.ne_of_lt (blk_lt BS3.out)); clear hb hbox hgx; obtain ⟨z0, z1, z2, z3, z4, z5⟩ := sel_cells BX4.out; have f0 := blk_frozen BX4.out 0; have f1 := blk_frozen BX4.out 1; have f2 := blk_frozen BX4.out 2; have f3 := blk_frozen BX4.out 3; have f4 := blk_frozen BX4.out 4; have f5 := blk_frozen BX4.out 5))
    have BS5 := Aside0.mk (show ((((((w4.setCell ⟨gx, 0, none⟩ (.int .i64 x1)).setCell ⟨gx, 1, none⟩ (.slice Ax1 x2.length cx1)).setCell ⟨gx, 2, none⟩ (.slice Ax2 x3.length cx2)).setCell ⟨gx, 3, none⟩ (.slice Ax3 x4.length cx3)).setCell ⟨gx, 4, none⟩ (.slice Ax4 x5.length cx4)).setCell ⟨gx, 5, none⟩ (.slice Ax5 x6.length cx5)).heap[gs]? = some (.cells #[.int .i64 a1_0, .slice A1_1 l1_1.length c1_1, .slice A1_2 l1_2.length c1_2, .slice A1_3 l1_3.length c1_3, .slice A1_4 l1_4.length c1_4, .slice A1_5 l1_5.length c1_5] 33 (0, 0)) from by
      refine blk_far (blk_far (blk_far (blk_far (blk_far (blk_far BS4.out ?_ _) ?_ _) ?_ _) ?_ _) ?_ _) ?_ _ <;> exact NX.out)
    have BX5 := Aside0.mk (sel_put (a := .int .i64 x1) (b := .slice Ax1 x2.length cx1) (c := .slice Ax2 x3.length cx2) (d := .slice Ax3 x4.length cx3) (e := .slice Ax4 x5.length cx4) (f := .slice Ax5 x6.length cx5) BX4.out rfl)
    have HB5 := Aside0.mk (below_put6 (a := .int .i64 x1) (b := .slice Ax1 x2.length cx1) (c := .slice Ax2 x3.length cx2) (d := .slice Ax3 x4.length cx3) (e := .slice Ax4 x5.length cx4) (f := .slice Ax5 x6.length cx5) HB4.out (Nat.le_trans HB3.out.size GX.out))
    have HXC5 := Aside0.mk (HXC.out.below (below_put6 (a := .int .i64 x1) (b := .slice Ax1 x2.length cx1) (c := .slice Ax2 x3.length cx2) (d := .slice Ax3 x4.length cx3) (e := .slice Ax4 x5.length cx4) (f := .slice Ax5 x6.length cx5) HB34.out GX.out))
    clear z0 z1 z2 z3 z4 z5 f0 f1 f2 f3 f4 f5 BX4 BS4 HB4 HXC BS3 BS2 HB34
    generalize ((((((w4.setCell ⟨gx, 0, none⟩ (.int .i64 x1)).setCell ⟨gx, 1, none⟩ (.slice Ax1 x2.length cx1)).setCell ⟨gx, 2, none⟩ (.slice Ax2 x3.length cx2)).setCell ⟨gx, 3, none⟩ (.slice Ax3 x4.length cx3)).setCell ⟨gx, 4, none⟩ (.slice Ax4 x5.length cx4)).setCell ⟨gx, 5, none⟩ (.slice Ax5 x6.length cx5)) = w5 at BS5 BX5 HB5 HXC5 ⊢
    obtain ⟨z0, z1, z2, z3, z4, z5⟩ := sel_cells BX5.out
    go_upto_region 5 with (first | (go_at_call 22; refine (space_Tuples.calls k _ _ l0 x1 _ _ x2 _ _ x3 _ _ x4 _ _ x5 _ _ x6 T te _ (Kd.C_below HR0.out HB5.out) HC0.out HXC5.out.h1 HXC5.out.k1 HXC5.out.h2 HXC5.out.k2 HXC5.out.h3 HXC5.out.k3 HXC5.out.h4 HXC5.out.k4 HXC5.out.h5 HXC5.out.k5 HT.out).mono ?_; rintro e_ w6 ⟨v6, rfl, o1, hb⟩; obtain ⟨Al6, cl6, rfl⟩ := Kd.S_slice o1; have HO6 := Aside0.mk o1; have HBB6 := Aside0.mk hb; have HB6 := Aside0.mk (below_step HB5.out hb); have BS6 := Aside0.mk (blk_below BS5.out hb); have BX6 := Aside0.mk (blk_below BX5.out hb); have HXC6 := Aside0.mk (HXC5.out.below hb); clear hb o1 z0 z1 z2 z3 z4 z5; obtain ⟨z0, z1, z2, z3, z4, z5⟩ := sel_cells BX6.out))
    go_upto_region 6 with (first | (go_at_call 22; refine (space_Tuples.calls k _ _ l0 x1 _ _ x2 _ _ x3 _ _ x4 _ _ x5 _ _ x6 T te _ (Kd.C_below HR0.out HB6.out) HC0.out HXC6.out.h1 HXC6.out.k1 HXC6.out.h2 HXC6.out.k2 HXC6.out.h3 HXC6.out.k3 HXC6.out.h4 HXC6.out.k4 HXC6.out.h5 HXC6.out.k5 HT.out).mono ?_; rintro e_ w7 ⟨v7, rfl, o1, hb⟩; obtain ⟨Al7, cl7, rfl⟩ := Kd.S_slice o1; have HO7 := Aside0.mk o1; have HBB7 := Aside0.mk hb; have HB7 := Aside0.mk (below_step HB6.out hb); have BS7 := Aside0.mk (blk_below BS6.out hb); have BX7 := Aside0.mk (blk_below BX6.out hb); have HXC7 := Aside0.mk (HXC6.out.below hb); clear hb o1 z0 z1 z2 z3 z4 z5; obtain ⟨z0, z1, z2, z3, z4, z5⟩ := sel_cells BX7.out))
    obtain ⟨y0, y1, y2, y3, y4, y5⟩ := sel_cells BS7.out
    go_upto_region 7 with (first | (go_at_call 23; refine (slabvaultref12_Tuples.calls k _ _ l0 a1_0 _ _ l1_1 _ _ l1_2 _ _ l1_3 _ _ l1_4 _ _ l1_5 Q te _ (Kd.C_below HR0.out HB7.out) HC0.out (HS.out.below HB7.out).h1 (HS.out.below HB7.out).k1 (HS.out.below HB7.out).h2 (HS.out.below HB7.out).k2 (HS.out.below HB7.out).h3 (HS.out.below HB7.out).k3 (HS.out.below HB7.out).h4 (HS.out.below HB7.out).k4 (HS.out.below HB7.out).h5 (HS.out.below HB7.out).k5 HQ.out).mono ?_; rintro e_ w8 ⟨v8, rfl, o1, hb⟩; obtain ⟨Aq, cq, rfl⟩ := Kd.N_slice o1; have HO8 := Aside0.mk o1; have HBB8 := Aside0.mk hb; have HB8 := Aside0.mk (below_step HB7.out hb); have BS8 := Aside0.mk (blk_below BS7.out hb); have BX8 := Aside0.mk (blk_below BX7.out hb); have HXC8 := Aside0.mk (HXC7.out.below hb); clear hb o1 z0 z1 z2 z3 z4 z5 y0 y1 y2 y3 y4 y5))
    have HO68 := Aside0.mk (Kd.S_below (Kd.S_below HO6.out HBB7.out) HBB8.out)
    go_upto_region 9 with (first | (go_at_call 24; refine (slabvaultlaw12_lists.calls k _ _ T _ _ Q true _ (Kd.S_reads' HO68.out).2.2 (Kd.S_reads' HO68.out).2.1 (Kd.N_reads' HO8.out).2.2 (Kd.N_reads' HO8.out).2.1 H1.out).mono ?_; rintro e_ w9 ⟨rfl, hd⟩; have hb := hd.below; have HBB9 := Aside0.mk hb; have HB9 := Aside0.mk (below_step HB8.out hb); have BS9 := Aside0.mk (blk_below BS8.out hb); have BX9 := Aside0.mk (blk_below BX8.out hb); have HXC9 := Aside0.mk (HXC8.out.below hb); clear hb hd; obtain ⟨z0, z1, z2, z3, z4, z5⟩ := sel_cells BX9.out; obtain ⟨y0, y1, y2, y3, y4, y5⟩ := sel_cells BS9.out) | (go_at_call 25; refine (slabvaultlaw12_alike.calls k x1 _ _ x2 _ _ x3 _ _ x4 _ _ x5 _ _ x6 a1_0 _ _ l1_1 _ _ l1_2 _ _ l1_3 _ _ l1_4 _ _ l1_5 true _ HXC9.out.h1 HXC9.out.k1 HXC9.out.h2 HXC9.out.k2 HXC9.out.h3 HXC9.out.k3 HXC9.out.h4 HXC9.out.k4 HXC9.out.h5 HXC9.out.k5 (HS.out.below HB9.out).h1 (HS.out.below HB9.out).k1 (HS.out.below HB9.out).h2 (HS.out.below HB9.out).k2 (HS.out.below HB9.out).h3 (HS.out.below HB9.out).k3 (HS.out.below HB9.out).h4 (HS.out.below HB9.out).k4 (HS.out.below HB9.out).h5 (HS.out.below HB9.out).k5 H2.out).mono ?_; rintro e_ w10 ⟨rfl, hb⟩; have HBB10 := Aside0.mk hb; have HB10 := Aside0.mk (below_step HB9.out hb); have BS10 := Aside0.mk (blk_below BS9.out hb); have BX10 := Aside0.mk (blk_below BX9.out hb); clear hb z0 z1 z2 z3 z4 z5 y0 y1 y2 y3 y4 y5))
    have hs56 : w5.heap.size ≤ w6.heap.size := HBB6.out.size
    have hs67 : w6.heap.size ≤ w7.heap.size := HBB7.out.size
    have hs78 : w7.heap.size ≤ w8.heap.size := HBB8.out.size
    have b610 : Below w6.heap.size w6 w10 := below_step (below_step (below_step HBB7.out HBB8.out) HBB9.out) HBB10.out
    have b710 : Below w7.heap.size w7 w10 := below_step (below_step HBB8.out HBB9.out) HBB10.out
    have b810 : Below w8.heap.size w8 w10 := below_step HBB9.out HBB10.out
    have b510 : Below w5.heap.size w5 w10 := below_step HBB6.out b610
    have HL0 := Aside0.mk (Kd.S_below (Kd.S_mono (ok' := fun k => k < w6.heap.size) (Kd.S_bound HO6.out) (fun _ hk => hk.2.2.1)) b610)
    have FK := Aside0.mk (Kd.F_below (Kd.S_F (Kd.S_mono (ok' := fun k => k < w5.heap.size ∨ w6.heap.size ≤ k) (Kd.S_bound HO7.out) (fun _ hk => .inr hk.2.1))) b710)
    have FQ := Aside0.mk (Kd.F_below (Kd.F_mono (ok' := fun k => k < w5.heap.size ∨ w6.heap.size ≤ k) (Kd.N_F HO8.out) (fun _ hk => .inr (Nat.le_trans hs67 hk))) b810)
    have FX := Aside0.mk ((HXC5.out.foot.mono (ok' := fun k => k < w5.heap.size ∨ w6.heap.size ≤ k) (fun _ hk => .inl hk)).step (fun k _ hk => b510.block k hk))
    have FS := Aside0.mk ((HS.out.foot.mono (ok' := fun k => k < w5.heap.size ∨ w6.heap.size ≤ k) (fun _ hk => .inl (Nat.lt_of_lt_of_le hk HB5.out.size))).step (fun k _ hk => HB10.out.block k hk))
    have hgs : gs < w5.heap.size := blk_lt BS5.out
    have hgx : gx < w5.heap.size := blk_lt BX5.out
    have N5 := Aside0.mk (show w.heap.size ≤ w5.heap.size from HB5.out.size)
    have KL := Aside0.mk (show Kd.V (Kd.int .i64) 0 w 0 (fun _ => True) (.slice none 0 0) [] ∨ True from .inr trivial)
    have GSX := Aside0.mk (show gs < w5.heap.size ∧ gx < w5.heap.size from ⟨hgs, hgx⟩)
    have CK := Aside0.mk (Kd.S_reads' HO7.out).2.1
    have CQ := Aside0.mk (Kd.N_reads' HO8.out).2.1
    clear hs56 hs67 hs78 b610 b710 b810 b510 hgs hgx KL HO6 HO7 HO8 HO68 HXC5 HXC6 HXC7 HXC8 HXC9 HBB6 HBB7 HBB8 HBB9 HBB10 BX5 BX6 BX7 BX8 BX9 BS5 BS6 BS7 BS8 BS9
    go_wp2
    go_loopg [12] T.length (fun kq v12 W => ∃ (i : Int), v12 = .int .i64 i ∧ Aside0 (0 ≤ i ∧ (T.length : Int) ≤ i + kq) ∧ Aside0 (∃ T' : List (List Int), T'.map List.length = T.map List.length ∧ Kd.S (Kd.slice 3 (Kd.int .i64)) 22 W w5.heap.size (fun k => k < w6.heap.size) (.slice Al6 T.length cl6) T' ∧ (∀ k, k < w5.heap.size ∨ w6.heap.size ≤ k → W.heap[k]? = w10.heap[k]?) ∧ Below w.heap.size w W))
    case atStart => exact ⟨0, rfl, ⟨Int.le_refl _, by omega⟩, ⟨T, rfl, HL0.out, fun _ _ => rfl, HB10.out⟩⟩
    case round =>
      obtain ⟨i, rfl, HI, HJ⟩ := hrel
      obtain ⟨T', hlen, hS, hsame, hB⟩ := HJ.out
      have HLN := Aside0.mk hlen
      have HSS := Aside0.mk hS
      have HSM := Aside0.mk hsame
      have HBW := Aside0.mk hB
      have HT1' := HT1.out
      clear hlen hS hsame hB HJ
      by_cases ci : i < (T.length : Int)
      · have c1 : decide (i < (T.length : Int)) = true := decide_eq_true ci
        obtain ⟨ad, rfl⟩ : ∃ ad, Al6 = some ad := by
          obtain ⟨ad, e, _⟩ := (Kd.S_reads' HSS.out).2.2.2.2 (by have := (Kd.S_reads' HSS.out).1; have := HI.out.1; omega)
          exact ⟨ad, e⟩
        obtain ⟨m, hm⟩ : ∃ m, m = gk := ⟨gk, rfl⟩
        have HM := Aside0.mk hm
        clear hm
        have H4 := Aside0.mk (show (rd_L1 T i).length ≤ 4 from by
          have hi := HI.out.1
          rw [← rdL1_getD T i hi ci]
          have hl : i.toNat < T.length := by omega
          have hq : T.getD i.toNat [] = T[i.toNat] := by simp [List.getD_eq_getElem?_getD, hl]
          rw [hq]
          exact HT2.out _ (List.getElem_mem hl))
        have p1 := eq_true HI.out.1
        have q1 := eq_true ci
        clear ci
        go_wp2
        go_loopg [13] (rd_L1 T i).length (fun kq v13 W => ∃ (j : Int), v13 = .int .i64 j ∧ Aside0 (0 ≤ j ∧ ((rd_L1 T i).length : Int) ≤ j + kq) ∧ Aside0 (∃ T' : List (List Int), T'.map List.length = T.map List.length ∧ Kd.S (Kd.slice 3 (Kd.int .i64)) 22 W w5.heap.size (fun k => k < w6.heap.size) (.slice (some ad) T.length cl6) T' ∧ (∀ k, k < w5.heap.size ∨ w6.heap.size ≤ k → W.heap[k]? = w10.heap[k]?) ∧ Below w.heap.size w W))
        case atStart => exact ⟨0, rfl, ⟨Int.le_refl _, by omega⟩, ⟨T', HLN.out, HSS.out, HSM.out, HBW.out⟩⟩
        case round =>
          clear HLN HSS HSM HBW
          obtain ⟨j, rfl, HJ1, HJ2⟩ := hrel
          obtain ⟨T2, hlen, hS, hsame, hB⟩ := HJ2.out
          obtain ⟨A, c, hx, hst⟩ := S_row hS i HI.out.1 (of_eq_true q1)
          rw [lens_rd hlen] at hx hst
          have HLN := Aside0.mk hlen
          have HSS := Aside0.mk hS
          have HSM := Aside0.mk hsame
          have HBW := Aside0.mk hB
          clear hlen hS hsame hB HJ2
          by_cases cj : j < ((rd_L1 T i).length : Int)
          · have c2 : decide (j < ((rd_L1 T i).length : Int)) = true := decide_eq_true cj
            obtain ⟨g, rfl, ⟨u, hu⟩, hf, hgok, hgb, hset⟩ := hst j HJ1.out.1 cj
            have p2 := eq_true HJ1.out.1
            have q2 := eq_true cj
            have HG1 := Aside0.mk (show g < w6.heap.size ∧ w5.heap.size ≤ g from ⟨hgok, hgb⟩)
            have HSET := Aside0.mk (hset (-5))
            clear hst cj hgok hgb hset
            go_wp2
            go_roundg (gk - 1)
            case measure => have := HJ1.out; have := of_eq_true q2; omega
            case rel =>
              have hw : wrap64 (j + 1) = j + 1 := by have := of_eq_true p2; have := of_eq_true q2; have := H4.out; unfold wrap64; omega
              refine ⟨wrap64 (j + 1), rfl, ⟨?_⟩, ⟨T2.set i.toNat ((rd_L1 T2 i).set j.toNat (-5)), lens_set HLN.out i j (-5) HI.out.1 (of_eq_true q1), HSET.out, fun k hk => ?_, HBW.out.setCell (Nat.le_trans N5.out HG1.out.2) _⟩⟩
              · rw [hw]
                have := HJ1.out
                have := of_eq_true q2
                omega
              · rw [Below.heap_setCell wr _ _ k (by have := HG1.out; show k ≠ g; omega)]
                exact HSM.out k hk
          · have c2 : decide (j < ((rd_L1 T i).length : Int)) = false := decide_eq_false cj
            clear hst cj
            go_wp2
            go_roundg (m - 1)
            case measure => have := HI.out; have := HM.out; have := of_eq_true q1; omega
            case rel =>
              have hw : wrap64 (i + 1) = i + 1 := by have := HI.out; have := of_eq_true q1; have := HT1.out; unfold wrap64; omega
              refine ⟨wrap64 (i + 1), rfl, ⟨?_⟩, ⟨T2, HLN.out, HSS.out, HSM.out, HBW.out⟩⟩
              rw [hw]
              have := HI.out
              have := HM.out
              have := of_eq_true q1
              omega
      · have c1 : decide (i < (T.length : Int)) = false := decide_eq_false ci
        clear ci
        have FK' := Aside0.mk (Kd.F_now (Kd.F_step FK.out (fun k hk _ => HSM.out k hk)))
        have FQ' := Aside0.mk (Kd.F_now (Kd.F_step FQ.out (fun k hk _ => HSM.out k hk)))
        have FX' := Aside0.mk ((FX.out.step (fun k hk _ => HSM.out k hk)).now)
        have FS' := Aside0.mk ((FS.out.step (fun k hk _ => HSM.out k hk)).now)
        have BXr := Aside0.mk ((HSM.out gx (.inl GSX.out.2)).trans BX10.out)
        have BSr := Aside0.mk ((HSM.out gs (.inl GSX.out.1)).trans BS10.out)
        go_wp2_with (first | (go_at_call 24; refine (slabvaultlaw12_lists.calls k _ _ T _ _ Q true _ FK'.out CK.out FQ'.out CQ.out H1.out).mono ?_; rintro e_ w11 ⟨rfl, hd⟩; have hb := hd.below; have HB11 := Aside0.mk (below_step HBW.out hb); have BS11 := Aside0.mk (blk_below BSr.out hb); have BX11 := Aside0.mk (blk_below BXr.out hb); have FX11 := Aside0.mk (FX'.out.below hb); have FS11 := Aside0.mk (FS'.out.below hb); clear hb hd; obtain ⟨z0, z1, z2, z3, z4, z5⟩ := sel_cells BX11.out; obtain ⟨y0, y1, y2, y3, y4, y5⟩ := sel_cells BS11.out) | (go_at_call 25; refine (slabvaultlaw12_alike.calls k x1 _ _ x2 _ _ x3 _ _ x4 _ _ x5 _ _ x6 a1_0 _ _ l1_1 _ _ l1_2 _ _ l1_3 _ _ l1_4 _ _ l1_5 true _ FX11.out.h1 FX11.out.k1 FX11.out.h2 FX11.out.k2 FX11.out.h3 FX11.out.k3 FX11.out.h4 FX11.out.k4 FX11.out.h5 FX11.out.k5 FS11.out.h1 FS11.out.k1 FS11.out.h2 FS11.out.k2 FS11.out.h3 FS11.out.k3 FS11.out.h4 FS11.out.k4 FS11.out.h5 FS11.out.k5 H2.out).mono ?_; rintro e_ w12 ⟨rfl, hb⟩; have HB12 := Aside0.mk (below_step HB11.out hb); clear hb z0 z1 z2 z3 z4 z5 y0 y1 y2 y3 y4 y5) | (go_at_call 13; refine (slabvaultlaw12_lives.calls k r _ HL.out).mono ?_; rintro e_ wHB13 ⟨rfl, hb⟩; have HB13 := Aside0.mk (below_step HB12.out hb); clear hb))
        go_ret
        exact ⟨rfl, HB13.out⟩
end Go.Proofs.Ytjbjofmcmjojlaa.Wk
end
section
namespace Go.Proofs.Ytjbjofmcmjojlaa.Wk
open Go.RowKit Go.Proofs.YtjbjofmcmjojlaaW.PrintWords Go.Proofs.YtjbjofmcmjojlaaW.PrintLast Go.Proofs.YtjbjofmcmjojlaaW.PrintMore
attribute [local go_sem] max2_int min2_int max_two min_two max_three min_three max_four min_four
set_option linter.unusedVariables false
set_option linter.unusedSimpArgs false
def slabvaultlaw12_SpaceElements.f (k : Nat) (l0 : List Int) : Option (Bool) := (space_Elements.f l0).bind fun bt208 => ((slabvaultref12_Elements.f k l0).bind fun bt210 => (if bt208.1 = bt210.1 then (if bt208.2 = bt210.2 then ((slabvaultlaw12_lives.f k).bind fun t212 => (some t212)) else (some false)) else (some false)))
def slabvaultlaw12_SpaceElements.Pure : Prop := ∀ (l0 : List Int), l0.length ≤ maxLen → l0.length * 8 ≤ 140737488351232 → (∀ x ∈ l0, (Lit.int .i64 x).wf = true) → ∃ k, slabvaultlaw12_SpaceElements.f k l0 = some true
end Go.Proofs.Ytjbjofmcmjojlaa.Wk
end
section
namespace Go.Proofs.Ytjbjofmcmjojlaa.Pure
open Go.RowKit Go.Proofs.Ytjbjofmcmjojlaa.Wk Go.Proofs.YtjbjofmcmjojlaaW.PrintWords Go.Proofs.YtjbjofmcmjojlaaW.PrintLast
theorem wrap_up {i : Nat} {n : Nat} (h : i < n) (hn : n ≤ 9223372036854775807) : wrap64 ((i : Int) + 1) = ((i + 1 : Nat) : Int) := by unfold wrap64; omega
theorem rd_nat (l : List Int) (i : Nat) (h : i < l.length) : rd l (i : Int) = l[i] := by simp [rd, h]
theorem lives_ev : Ev (fun k => slabvaultlaw12_lives.f k) true := Ev.of (fun k => slabvaultlaw12_lives.mono k) (k := 60) (by decide +kernel)
def elemsT (l0 : List Int) : Int × Int := if 4 < l0.length ∨ l0.any badDim = true then (0, 2) else if l0.contains 0 = true then (0, 0) else prodLoop l0 l0.length 0 1
theorem elements_eq (l : List Int) : space_Elements.f l = some (elemsT l) := rfl
theorem ref_l2 (l : List Int) (hm : l.length ≤ 9223372036854775807) (hb : l.any badDim = false) : ∀ (d i : Nat) (n : Int), l.length - i = d → i ≤ l.length → 0 ≤ n → n ≤ 1048576 →
    Ev (fun k => slabvaultref12_Elements.l2 k l n i) (prodLoop l d i n) := by
  intro d
  induction d with
  | zero =>
    intro i n h hi _ _
    refine Ev.step (f := fun _ => some (n, 0)) (fun k => ?_) (Ev.now _)
    simp only [slabvaultref12_Elements.l2]
    rw [if_neg (by omega)]
  | succ d ih =>
    intro i n h hi h0 h1
    have hlt : i < l.length := by omega
    have hg := good_rd hb i hlt
    have hy1 : 0 ≤ n * rd l i := Int.mul_nonneg h0 hg.1
    have hy2 : n * rd l i ≤ 1048576 * 1048576 := Int.mul_le_mul h1 hg.2 hg.1 (by omega)
    have hw : wrap64 (n * rd l i) = n * rd l i := by unfold wrap64; omega
    by_cases hbig : n * rd l i > 1048576
    · refine Ev.step (f := fun _ => some (0, 3)) (fun k => ?_) (by rw [prodLoop, if_pos hbig]; exact Ev.now _)
      simp only [slabvaultref12_Elements.l2]
      rw [if_pos (by omega), if_pos (by omega), hw, if_pos hbig]
    · refine Ev.step (f := fun k => slabvaultref12_Elements.l2 k l (n * rd l i) ((i + 1 : Nat) : Int)) (fun k => ?_) (by rw [prodLoop, if_neg hbig]; exact ih (i + 1) _ (by omega) (by omega) hy1 (by omega))
      simp only [slabvaultref12_Elements.l2]
      rw [if_pos (by omega), if_pos (by omega), hw, if_neg hbig, wrap_up hlt hm]
theorem ref_l1 (l : List Int) (hm : l.length ≤ 9223372036854775807) (hb : l.any badDim = false) : ∀ (d i : Nat), l.length - i = d → i ≤ l.length →
    Ev (fun k => slabvaultref12_Elements.l1 k l 1 i) (if (l.drop i).contains 0 = true then (0, 0) else prodLoop l l.length 0 1) := by
  intro d
  induction d with
  | zero =>
    intro i h hi
    rw [List.drop_eq_nil_of_le (by omega)]
    refine Ev.step (f := fun k => slabvaultref12_Elements.l2 k l 1 0) (fun k => ?_) (ref_l2 l hm hb l.length 0 1 (by omega) (by omega) (by omega) (by omega))
    simp only [slabvaultref12_Elements.l1]
    rw [if_neg (by omega)]
  | succ d ih =>
    intro i h hi
    have hlt : i < l.length := by omega
    rw [List.drop_eq_getElem_cons hlt, List.contains_cons]
    have e := rd_nat l i hlt
    by_cases hz : rd l i = 0
    · refine Ev.step (f := fun _ => some (0, 0)) (fun k => ?_) (by rw [e] at hz; rw [hz]; exact Ev.now _)
      simp only [slabvaultref12_Elements.l1]
      rw [if_pos (by omega), if_pos (by omega), if_pos hz]
    · refine Ev.step (f := fun k => slabvaultref12_Elements.l1 k l 1 ((i + 1 : Nat) : Int)) (fun k => ?_) (by
        have : (0 == l[i]) = false := by
          rw [e] at hz
          exact beq_eq_false_iff_ne.2 (fun h0 => hz h0.symm)
        rw [this, Bool.false_or]
        exact ih (i + 1) (by omega) (by omega))
      simp only [slabvaultref12_Elements.l1]
      rw [if_pos (by omega), if_pos (by omega), if_neg hz, wrap_up hlt hm]
theorem ref_l0 (l : List Int) (hm : l.length ≤ 9223372036854775807) : ∀ (d i : Nat), l.length - i = d → i ≤ l.length → (l.take i).any badDim = false →
    Ev (fun k => slabvaultref12_Elements.l0 k l 1 i) (if (l.drop i).any badDim = true then (0, 2) else if l.contains 0 = true then (0, 0) else prodLoop l l.length 0 1) := by
  intro d
  induction d with
  | zero =>
    intro i h hi hb
    rw [List.drop_eq_nil_of_le (by omega)]
    rw [List.take_of_length_le (by omega)] at hb
    refine Ev.step (f := fun k => slabvaultref12_Elements.l1 k l 1 0) (fun k => ?_) (by
      have := ref_l1 l hm hb l.length 0 (by omega) (by omega)
      rw [List.drop_zero] at this
      rw [if_neg (by simp)]
      exact this)
    simp only [slabvaultref12_Elements.l0]
    rw [if_neg (by omega)]
  | succ d ih =>
    intro i h hi hb
    have hlt : i < l.length := by omega
    have e := rd_nat l i hlt
    rw [List.drop_eq_getElem_cons hlt, List.any_cons]
    by_cases h1 : rd l i < 0
    · refine Ev.step (f := fun _ => some (0, 2)) (fun k => ?_) (by
        have : badDim l[i] = true := by rw [e] at h1; simp [badDim, h1]
        rw [this]; exact Ev.now _)
      simp only [slabvaultref12_Elements.l0]
      rw [if_pos (by omega), if_pos (by omega), if_pos h1]
    · by_cases h2 : rd l i > 1048576
      · refine Ev.step (f := fun _ => some (0, 2)) (fun k => ?_) (by
          have : badDim l[i] = true := by rw [e] at h2; simp [badDim]; omega
          rw [this]; exact Ev.now _)
        simp only [slabvaultref12_Elements.l0]
        rw [if_pos (by omega), if_pos (by omega), if_neg h1, if_pos h2]
      · have hg : badDim l[i] = false := by rw [e] at h1 h2; simp [badDim]; omega
        refine Ev.step (f := fun k => slabvaultref12_Elements.l0 k l 1 ((i + 1 : Nat) : Int)) (fun k => ?_) (by
          rw [hg, Bool.false_or]
          exact ih (i + 1) (by omega) (by omega) (by rw [List.take_succ_eq_append_getElem hlt, List.any_append, hb]; simp [hg]))
        simp only [slabvaultref12_Elements.l0]
        rw [if_pos (by omega), if_pos (by omega), if_neg h1, if_neg h2, wrap_up hlt hm]
theorem refElements_ev (l : List Int) (hm : l.length ≤ 9223372036854775807) : Ev (fun k => slabvaultref12_Elements.f k l) (elemsT l) := by
  unfold elemsT
  by_cases h4 : 4 < l.length
  · rw [if_pos (.inl h4)]
    refine Ev.congr (f := fun _ => some (0, 2)) (fun k => ?_) (Ev.now _)
    unfold slabvaultref12_Elements.f
    rw [if_pos (by omega)]
  · refine Ev.congr (f := fun k => slabvaultref12_Elements.l0 k l 1 0) (fun k => ?_) ?_
    · unfold slabvaultref12_Elements.f
      rw [if_neg (by omega)]
    · have := ref_l0 l hm l.length 0 (by omega) (by omega) (by simp)
      simpa [h4] using this
end Go.Proofs.Ytjbjofmcmjojlaa.Pure
end
section
namespace Go.Proofs.Ytjbjofmcmjojlaa.Pure
open Go.RowKit Go.Proofs.Ytjbjofmcmjojlaa.Wk Go.Proofs.YtjbjofmcmjojlaaW.PrintWords Go.Proofs.YtjbjofmcmjojlaaW.PrintLast Go.Proofs.YtjbjofmcmjojlaaQ
def Fit (l : List Int) : Prop := l.length ≤ 9223372036854775807 ∧ ∀ x ∈ l, -9223372036854775808 ≤ x ∧ x ≤ 9223372036854775807
theorem Fit.rd {l : List Int} (h : Fit l) (i : Nat) (hi : i < l.length) : -9223372036854775808 ≤ rd l i ∧ rd l i ≤ 9223372036854775807 := by
  rw [rd_nat l i hi]
  exact h.2 _ (List.getElem_mem hi)
def manyT (l : List Int) : Int := if l.contains 0 = true then 0 else manyLoop l l.length 0 1
def beyondT (dim start stride cnt blk : Int) : Bool := decide (dim - start < blk) || (decide (0 < stride) && decide (cnt - 1 > (dim - start - blk) / stride))
def outAt (l0 x : List Int) (i : Nat) : Bool := (List.range' i (x.length - i)).any fun d => decide (rd x d ≥ rd l0 d)
def outT (l0 : List Int) (pts : List (List Int)) : Bool := pts.any fun x => outAt l0 x 0
def beyondAt (l0 start stride cnt blk : List Int) (i : Nat) : Bool := (List.range' i (l0.length - i)).any fun d => beyondT (rd l0 d) (rd start d) (rd stride d) (rd cnt d) (rd blk d)
def capT (n : Int) : Int × Int := if n > 4096 then (0, 18) else (n, 0)
def slabR (r : Nat) (start stride cnt blk : List Int) : Bool := [start, stride, cnt, blk].all (rightOne r)
def measuredT (l0 : List Int) (kind : Int) (pts : List (List Int)) (start stride cnt blk : List Int) : Int × Int :=
  if (elemsT l0).2 = 0 then
    if kind = 1 then capT (elemsT l0).1
    else if kind = 2 ∧ pts.all (rightOne l0.length) = true then (if outT l0 pts = true then (0, 17) else capT pts.length)
    else if kind = 3 ∧ slabR l0.length start stride cnt blk = true then
      (if manyT (cnt ++ blk) > 0 ∧ beyondAt l0 start stride cnt blk 0 = true then (0, 17) else capT (manyT (cnt ++ blk)))
    else (0, 2)
  else (0, (elemsT l0).2)
theorem range'_any_succ (p : Nat → Bool) (i n : Nat) (h : i < n) : (List.range' i (n - i)).any p = (p i || (List.range' (i + 1) (n - (i + 1))).any p) := by
  rw [show n - i = (n - (i + 1)) + 1 by omega, List.range'_succ, List.any_cons]
theorem beyond_eq {dim start stride cnt blk : Int} (h1 : 0 ≤ dim ∧ dim ≤ 1048576) (h2 : 0 ≤ start ∧ start ≤ 9223372036854775807) (h3 : 0 ≤ stride) (h4 : 0 ≤ cnt ∧ cnt ≤ 9223372036854775807) (h5 : 0 ≤ blk ∧ blk ≤ 9223372036854775807) :
    space_beyond.f dim start stride cnt blk = some (beyondT dim start stride cnt blk) := by
  unfold space_beyond.f beyondT
  have w1 : wrap64 (dim - start) = dim - start := by unfold wrap64; omega
  rw [w1]
  by_cases c : dim - start < blk
  · rw [if_pos c]
    simp [c]
  · rw [if_neg c]
    have w2 : wrap64 (dim - start - blk) = dim - start - blk := by unfold wrap64; omega
    have w3 : wrap64 (cnt - 1) = cnt - 1 := by unfold wrap64; omega
    rw [w2, w3]
    by_cases d : stride > 0
    · rw [if_pos d, if_neg (by omega), Int.tdiv_eq_ediv_of_nonneg (by omega)]
      have q0 : 0 ≤ (dim - start - blk) / stride := Int.ediv_nonneg (by omega) (by omega)
      have q1 : (dim - start - blk) / stride ≤ dim - start - blk := Int.ediv_le_self _ (by omega)
      have w4 : wrap64 ((dim - start - blk) / stride) = (dim - start - blk) / stride := by unfold wrap64; omega
      rw [w4]
      simp [c, d]
    · rw [if_neg d]
      simp [c, d]
theorem meas_l1 (l0 : List Int) (n : Int) (pts : List (List Int)) (hp : pts.length ≤ 9223372036854775807) (x : List Int) (hx : x.length = l0.length) (hm : l0.length ≤ 9223372036854775807) (m : Nat)
    (r : Int × Int) (hr : Ev (fun k => space_measured.l0 k l0 n pts pts.length ((m + 1 : Nat) : Int)) r) (hmp : m < pts.length) : ∀ (d i : Nat), x.length - i = d → i ≤ x.length →
    Ev (fun k => space_measured.l1 k l0 n pts pts.length m x x.length i) (if outAt l0 x i = true then (0, 17) else r) := by
  intro d
  induction d with
  | zero =>
    intro i h hi
    have e : outAt l0 x i = false := by unfold outAt; rw [show x.length - i = 0 by omega]; rfl
    rw [e]
    refine Ev.step (f := fun k => space_measured.l0 k l0 n pts pts.length ((m + 1 : Nat) : Int)) (fun k => ?_) hr
    simp only [space_measured.l1]
    rw [if_neg (by omega), wrap_up hmp hp]
  | succ d ih =>
    intro i h hi
    have hlt : i < x.length := by omega
    have e : outAt l0 x i = (decide (rd x i ≥ rd l0 i) || outAt l0 x (i + 1)) := range'_any_succ _ _ _ hlt
    rw [e]
    by_cases c : rd x i ≥ rd l0 i
    · refine Ev.step (f := fun _ => some (0, 17)) (fun k => ?_) (by rw [decide_eq_true c]; exact Ev.now _)
      simp only [space_measured.l1]
      rw [if_pos (by omega), if_pos (by omega), if_pos (by omega), if_pos (by omega), if_pos c]
    · refine Ev.step (f := fun k => space_measured.l1 k l0 n pts pts.length m x x.length ((i + 1 : Nat) : Int)) (fun k => ?_) (by rw [decide_eq_false c, Bool.false_or]; exact ih (i + 1) (by omega) (by omega))
      simp only [space_measured.l1]
      rw [if_pos (by omega), if_pos (by omega), if_pos (by omega), if_pos (by omega), if_neg c, wrap_up hlt (by omega)]
theorem meas_l0 (l0 : List Int) (n : Int) (pts : List (List Int)) (hp : pts.length ≤ 9223372036854775807) (hm : l0.length ≤ 9223372036854775807) (hr : ∀ x ∈ pts, x.length = l0.length) : ∀ (d i : Nat), pts.length - i = d → i ≤ pts.length →
    Ev (fun k => space_measured.l0 k l0 n pts pts.length i) (if (pts.drop i).any (fun x => outAt l0 x 0) = true then (0, 17) else capT n) := by
  intro d
  induction d with
  | zero =>
    intro i h hi
    rw [List.drop_eq_nil_of_le (by omega)]
    refine Ev.step (f := fun _ => some (capT n)) (fun k => ?_) (by rw [if_neg (by simp)]; exact Ev.now _)
    simp only [space_measured.l0]
    rw [if_neg (by omega)]
    unfold capT
    split <;> rfl
  | succ d ih =>
    intro i h hi
    have hlt : i < pts.length := by omega
    have hx : rd_L1 pts i = pts[i] := by simp [rd_L1, List.getD_eq_getElem?_getD, hlt]
    have hl := hr _ (List.getElem_mem hlt)
    rw [List.drop_eq_getElem_cons hlt, List.any_cons]
    refine Ev.step (f := fun k => space_measured.l1 k l0 n pts pts.length i pts[i] (pts[i].length : Int) ((0 : Nat) : Int)) (fun k => ?_) ?_
    · simp only [space_measured.l0]
      rw [if_pos (by omega), if_pos (by omega), if_pos (by omega), hx]
      rfl
    · have := meas_l1 l0 n pts hp pts[i] hl hm i _ (ih (i + 1) (by omega) (by omega)) hlt pts[i].length 0 (by omega) (by omega)
      cases c : outAt l0 pts[i] 0 with
      | true => rw [c] at this; simpa using this
      | false => rw [c] at this; simpa using this
theorem meas_l2 (l0 : List Int) (n kind : Int) (pts : List (List Int)) (start stride cnt blk : List Int) (hm : l0.length ≤ 9223372036854775807) (h0 : l0.any badDim = false)
    (e1 : start.length = l0.length) (e2 : stride.length = l0.length) (e3 : cnt.length = l0.length) (e4 : blk.length = l0.length)
    (f1 : ∀ d : Nat, d < l0.length → 0 ≤ rd start d ∧ rd start d ≤ 9223372036854775807) (f2 : ∀ d : Nat, d < l0.length → 0 ≤ rd stride d) (f3 : ∀ d : Nat, d < l0.length → 0 ≤ rd cnt d ∧ rd cnt d ≤ 9223372036854775807) (f4 : ∀ d : Nat, d < l0.length → 0 ≤ rd blk d ∧ rd blk d ≤ 9223372036854775807) :
    ∀ (d i : Nat), l0.length - i = d → i ≤ l0.length →
    Ev (fun k => space_measured.l2 k l0 n l0.length i kind pts start stride cnt blk) (if n > 0 ∧ beyondAt l0 start stride cnt blk i = true then (0, 17) else capT n) := by
  intro d
  induction d with
  | zero =>
    intro i h hi
    have e : beyondAt l0 start stride cnt blk i = false := by unfold beyondAt; rw [show l0.length - i = 0 by omega]; rfl
    rw [e, if_neg (by simp)]
    refine Ev.step (f := fun _ => some (capT n)) (fun k => ?_) (Ev.now _)
    simp only [space_measured.l2]
    rw [if_neg (by omega)]
    unfold capT
    split <;> rfl
  | succ d ih =>
    intro i h hi
    have hlt : i < l0.length := by omega
    have e : beyondAt l0 start stride cnt blk i = (beyondT (rd l0 i) (rd start i) (rd stride i) (rd cnt i) (rd blk i) || beyondAt l0 start stride cnt blk (i + 1)) := range'_any_succ _ _ _ hlt
    have hb := beyond_eq (good_rd h0 i hlt) (f1 i hlt) (f2 i hlt) (f3 i hlt) (f4 i hlt)
    rw [e]
    by_cases c : n > 0
    · refine Ev.step (f := fun k => if beyondT (rd l0 i) (rd start i) (rd stride i) (rd cnt i) (rd blk i) = true then some (0, 17) else space_measured.l2 k l0 n l0.length ((i + 1 : Nat) : Int) kind pts start stride cnt blk) (fun k => ?_) ?_
      · simp only [space_measured.l2]
        rw [if_pos (by omega), if_pos c, if_pos (by omega), if_pos (by omega), if_pos (by omega), if_pos (by omega), if_pos (by omega), if_pos (by omega), hb, Option.bind_some, wrap_up hlt hm]
      · cases b : beyondT (rd l0 i) (rd start i) (rd stride i) (rd cnt i) (rd blk i) with
        | true => simp only [if_true, Bool.true_or, and_true]; rw [if_pos c]; exact Ev.now _
        | false => simp only [Bool.false_eq_true, if_false, Bool.false_or]; exact ih (i + 1) (by omega) (by omega)
    · refine Ev.step (f := fun k => space_measured.l2 k l0 n l0.length ((i + 1 : Nat) : Int) kind pts start stride cnt blk) (fun k => ?_) ?_
      · simp only [space_measured.l2]
        rw [if_pos (by omega), if_neg c, wrap_up hlt hm]
      · have := ih (i + 1) (by omega) (by omega)
        rw [if_neg (fun h => c h.1)] at this ⊢
        exact this
theorem right_nonneg {l : List Int} {r : Nat} (h : rightOne r l = true) : l.length = r ∧ l.any negDim = false := by
  unfold rightOne at h
  rw [Bool.and_eq_true, decide_eq_true_eq, Bool.not_eq_true'] at h
  exact ⟨by omega, h.2⟩
theorem neg_rd {l : List Int} (h : l.any negDim = false) (i : Nat) (hi : i < l.length) : 0 ≤ rd l i := by
  rw [rd_nat l i hi]
  have := List.any_eq_false.1 h l[i] (List.getElem_mem hi)
  simp [negDim] at this
  omega
theorem many_eq {l : List Int} (h : l.length ≤ 9223372036854775807) (hn : l.any negDim = false) : space_many.f 1 l = some (manyT l) := by
  unfold space_many.f manyT
  rw [if_pos ⟨rfl, by unfold maxLen; omega, hn⟩]
theorem right_eq {a : Int} {l : List (List Int)} (h : l.length ≤ 9223372036854775807) (hl : ∀ x ∈ l, x.length ≤ 9223372036854775807) : space_right.f a l = some (l.all (rightOne a)) := by
  unfold space_right.f
  rw [if_pos ⟨by unfold maxLen; omega, fun x hx => by have := hl x hx; unfold maxLen; omega⟩]
theorem measured_ev (l0 : List Int) (kind : Int) (pts : List (List Int)) (start stride cnt blk : List Int) (h0 : Fit l0) (h1 : pts.length ≤ 9223372036854775807) (h1' : ∀ x ∈ pts, x.length ≤ 9223372036854775807)
    (h2 : Fit start) (h3 : Fit stride) (h4 : Fit cnt) (h5 : Fit blk) : Ev (fun k => space_measured.f k l0 kind pts start stride cnt blk) (measuredT l0 kind pts start stride cnt blk) := by
  unfold space_measured.f measuredT
  rw [elements_eq]
  simp only [Option.bind_some]
  by_cases he : (elemsT l0).2 = 0
  · rw [if_pos he]
    simp only [if_pos he]
    have hgood : l0.length ≤ 4 ∧ l0.any badDim = false := by
      unfold elemsT at he
      by_cases c : 4 < l0.length ∨ l0.any badDim = true
      · rw [if_pos c] at he; simp at he
      · rw [not_or] at c
        exact ⟨by omega, by simpa using c.2⟩
    by_cases k1 : kind = 1
    · rw [if_pos k1]
      simp only [if_pos k1]
      unfold capT
      split <;> exact Ev.now _
    · rw [if_neg k1]
      simp only [if_neg k1]
      by_cases k2 : kind = 2
      · subst k2
        rw [right_eq h1 h1']
        simp only [if_true, Option.bind_some]
        cases hr : pts.all (rightOne (l0.length : Int)) with
        | true =>
          rw [if_pos ⟨trivial, rfl⟩]
          refine Ev.step (f := fun k => space_measured.l0 k l0 pts.length pts pts.length ((0 : Nat) : Int)) (fun k => ?_) ?_
          · simp only [space_measured.j0, if_true]
            rfl
          · have hlen : ∀ x ∈ pts, x.length = l0.length := fun x hx => (right_nonneg (List.all_eq_true.1 hr x hx)).1
            have := meas_l0 l0 pts.length pts h1 h0.1 hlen pts.length 0 (by omega) (by omega)
            rw [List.drop_zero] at this
            exact this
        | false =>
          rw [if_neg (by simp), if_neg (by simp)]
          refine Ev.step (f := fun k => space_measured.j3 k l0 false 2 pts start stride cnt blk) (fun k => ?_) ?_
          · simp only [space_measured.j0]
            rw [if_neg (by simp), if_neg (by omega)]
          · refine Ev.step (f := fun _ => some (0, 2)) (fun k => ?_) (Ev.now _)
            simp only [space_measured.j3]
            rw [if_neg (by simp)]
      · rw [if_neg (fun h => k2 h.1)]
        simp only [if_neg k2]
        by_cases k3 : kind = 3
        · subst k3
          have hr4 : space_right.f (l0.length : Int) [start, stride, cnt, blk] = some (slabR l0.length start stride cnt blk) := right_eq (by simp) (by
            intro x hx
            simp only [List.mem_cons, List.not_mem_nil, or_false] at hx
            rcases hx with rfl | rfl | rfl | rfl
            · exact h2.1
            · exact h3.1
            · exact h4.1
            · exact h5.1)
          refine Ev.step (f := fun k => space_measured.j3 k l0 (slabR l0.length start stride cnt blk) 3 pts start stride cnt blk) (fun k => ?_) ?_
          · simp only [space_measured.j0]
            rw [if_neg (by simp), if_pos trivial, hr4, Option.bind_some]
          · cases hs : slabR l0.length start stride cnt blk with
            | false =>
              rw [if_neg (by simp)]
              refine Ev.step (f := fun _ => some (0, 2)) (fun k => ?_) (Ev.now _)
              simp only [space_measured.j3]
              rw [if_neg (by simp)]
            | true =>
              rw [if_pos ⟨rfl, rfl⟩]
              unfold slabR at hs
              simp only [List.all_cons, List.all_nil, Bool.and_true, Bool.and_eq_true] at hs
              obtain ⟨r1, r2, r3, r4⟩ := hs
              obtain ⟨e1, n1⟩ := right_nonneg r1
              obtain ⟨e2, n2⟩ := right_nonneg r2
              obtain ⟨e3, n3⟩ := right_nonneg r3
              obtain ⟨e4, n4⟩ := right_nonneg r4
              have hcl : slices_Clone_int_int.f cnt = some cnt := by unfold slices_Clone_int_int.f; rw [if_pos (by omega)]
              have hmy := many_eq (l := cnt ++ blk) (by rw [List.length_append]; omega) (by rw [List.any_append, n3, n4]; rfl)
              refine Ev.step (f := fun k => space_measured.l2 k l0 (manyT (cnt ++ blk)) l0.length ((0 : Nat) : Int) 3 pts start stride cnt blk) (fun k => ?_) ?_
              · simp only [space_measured.j3, if_true]
                rw [hcl, Option.bind_some, if_pos (by omega), hmy, Option.bind_some]
                rfl
              · exact meas_l2 l0 _ 3 pts start stride cnt blk h0.1 hgood.2 e1 e2 e3 e4 (fun d hd => ⟨neg_rd n1 d (by omega), (h2.rd d (by omega)).2⟩) (fun d hd => neg_rd n2 d (by omega))
                  (fun d hd => ⟨neg_rd n3 d (by omega), (h4.rd d (by omega)).2⟩) (fun d hd => ⟨neg_rd n4 d (by omega), (h5.rd d (by omega)).2⟩) l0.length 0 (by omega) (by omega)
        · rw [if_neg (fun h => k3 h.1)]
          refine Ev.step (f := fun k => space_measured.j3 k l0 false kind pts start stride cnt blk) (fun k => ?_) ?_
          · simp only [space_measured.j0]
            rw [if_neg (by simp), if_neg k3]
          · refine Ev.step (f := fun _ => some (0, 2)) (fun k => ?_) (Ev.now _)
            simp only [space_measured.j3]
            rw [if_neg (by simp)]
  · rw [if_neg he]
    simp only [if_neg he]
    exact Ev.now _
end Go.Proofs.Ytjbjofmcmjojlaa.Pure
end
section
namespace Go.Proofs.Ytjbjofmcmjojlaa.Pure
open Go.RowKit Go.Proofs.Ytjbjofmcmjojlaa.Wk Go.Proofs.YtjbjofmcmjojlaaW.PrintWords Go.Proofs.YtjbjofmcmjojlaaW.PrintLast Go.Proofs.YtjbjofmcmjojlaaQ
def lprod (l : List Int) : Int := l.foldr (· * ·) 1
def nprod (l : List Nat) : Nat := l.foldr (· * ·) 1
theorem lprod_cons (a : Int) (l : List Int) : lprod (a :: l) = a * lprod l := rfl
theorem nprod_cons (a : Nat) (l : List Nat) : nprod (a :: l) = a * nprod l := rfl
theorem lprod_append (a b : List Int) : lprod (a ++ b) = lprod a * lprod b := by
  induction a with
  | nil => simp [lprod]
  | cons x a ih => rw [List.cons_append, lprod_cons, lprod_cons, ih, Int.mul_assoc]
theorem lex_length : ∀ N, (lexList N).length = nprod N
  | [] => rfl
  | n :: N => by
    rw [lexList, nprod_cons, List.length_flatMap]
    simp only [List.length_map, lex_length N]
    rw [List.map_const', List.length_range]
    simp [List.sum_replicate_nat]
theorem drop_rd (l : List Int) (i : Nat) (h : i < l.length) : l.drop i = rd l i :: l.drop (i + 1) := by rw [List.drop_eq_getElem_cons h, rd_nat l i h]
theorem prodLoop_ok (l : List Int) : ∀ (d i : Nat) (n p : Int), l.length - i = d → i ≤ l.length → prodLoop l d i n = (p, 0) → p = n * lprod (l.drop i)
  | 0, i, n, p, h, hi, e => by
    rw [List.drop_eq_nil_of_le (by omega)]
    simp only [prodLoop, Prod.mk.injEq] at e
    simp [lprod, e.1]
  | d + 1, i, n, p, h, hi, e => by
    simp only [prodLoop] at e
    split at e
    · simp at e
    · rw [drop_rd l i (by omega), lprod_cons, ← Int.mul_assoc]
      exact prodLoop_ok l d (i + 1) _ p (by omega) (by omega) e
theorem prodLoop_le (l : List Int) : ∀ (d i : Nat) (n p : Int) (e : Int), n ≤ 1048576 → prodLoop l d i n = (p, e) → p ≤ 1048576 ∧ (e = 0 ∨ e = 3)
  | 0, i, n, p, e, hn, h => by
    simp only [prodLoop, Prod.mk.injEq] at h
    omega
  | d + 1, i, n, p, e, hn, h => by
    simp only [prodLoop] at h
    split at h
    · simp only [Prod.mk.injEq] at h
      omega
    · exact prodLoop_le l d (i + 1) _ p e (by omega) h
theorem manyLoop_ok (l : List Int) : ∀ (d i : Nat) (n : Int), l.length - i = d → i ≤ l.length → manyLoop l d i n ≤ 4096 → manyLoop l d i n = n * lprod (l.drop i)
  | 0, i, n, h, hi, e => by
    rw [List.drop_eq_nil_of_le (by omega)]
    simp [lprod, manyLoop]
  | d + 1, i, n, h, hi, e => by
    simp only [manyLoop] at e ⊢
    split at e
    · omega
    · rename_i c
      rw [if_neg c, drop_rd l i (by omega), lprod_cons, ← Int.mul_assoc]
      exact manyLoop_ok l d (i + 1) _ (by omega) (by omega) e
def Within (l0 x : List Int) : Prop := x.length = l0.length ∧ ∀ d : Nat, d < l0.length → 0 ≤ rd x d ∧ rd x d < rd l0 d
theorem lex_mem : ∀ (N s : List Nat), s ∈ lexList N → s.length = N.length ∧ ∀ d, d < N.length → s.getD d 0 < N.getD d 0
  | [], s, h => by simp [lexList] at h; subst h; simp
  | n :: N, s, h => by
    simp only [lexList, List.mem_flatMap, List.mem_range, List.mem_map] at h
    obtain ⟨i, hi, t, ht, rfl⟩ := h
    obtain ⟨h1, h2⟩ := lex_mem N t ht
    refine ⟨by simp [h1], fun d hd => ?_⟩
    cases d with
    | zero => simpa using hi
    | succ d => simpa using h2 d (by simpa using hd)
theorem tupAt_length (av : Nat → Nat → Int) (s : List Nat) : (tupAt av s).length = s.length := by simp [tupAt]
theorem tupAt_rd (av : Nat → Nat → Int) (s : List Nat) (d : Nat) (h : d < s.length) : rd (tupAt av s) d = av d (s.getD d 0) := by
  rw [rd_nat _ _ (by rw [tupAt_length]; exact h)]
  simp [tupAt]
def horn : List Int → List Int → Int
  | _ :: l, b :: x => b * lprod l + horn l x
  | _, _ => 0
def hornN : List Nat → List Nat → Nat
  | _ :: N, i :: s => i * nprod N + hornN N s
  | _, _ => 0
theorem lprod_pos {l : List Int} (h : ∀ x ∈ l, 1 ≤ x) : 1 ≤ lprod l := by
  induction l with
  | nil => simp [lprod]
  | cons a l ih =>
    rw [lprod_cons]
    have h1 := h a (by simp)
    have h2 := ih (fun x hx => h x (by simp [hx]))
    have : 1 * 1 ≤ a * lprod l := Int.mul_le_mul h1 h2 (by omega) (by omega)
    omega
end Go.Proofs.Ytjbjofmcmjojlaa.Pure
end
section
namespace Go.Proofs.Ytjbjofmcmjojlaa.Pure
open Go.RowKit Go.Proofs.Ytjbjofmcmjojlaa.Wk Go.Proofs.YtjbjofmcmjojlaaW.PrintWords Go.Proofs.YtjbjofmcmjojlaaW.PrintLast Go.Proofs.YtjbjofmcmjojlaaQ
theorem elems_good {l : List Int} (h : (elemsT l).2 = 0) : l.length ≤ 4 ∧ l.any badDim = false ∧ (elemsT l).1 ≤ 1048576 ∧ (((elemsT l).1 = 0 ∧ l.contains 0 = true) ∨ (l.contains 0 = false ∧ (elemsT l).1 = lprod l)) := by
  have hE : elemsT l = if 4 < l.length ∨ l.any badDim = true then (0, 2) else if l.contains 0 = true then (0, 0) else prodLoop l l.length 0 1 := rfl
  by_cases c : 4 < l.length ∨ l.any badDim = true
  · rw [hE, if_pos c] at h
    simp at h
  · rw [if_neg c] at hE
    rw [not_or] at c
    by_cases z : l.contains 0 = true
    · rw [if_pos z] at hE
      rw [hE]
      exact ⟨by omega, by simpa using c.2, by simp, .inl ⟨rfl, z⟩⟩
    · rw [if_neg z] at hE
      rw [hE] at h ⊢
      have h1 := prodLoop_le l l.length 0 1 _ _ (by omega) (Prod.eta (prodLoop l l.length 0 1)).symm
      have h2 := prodLoop_ok l l.length 0 1 (prodLoop l l.length 0 1).1 (by omega) (by omega) (by rw [← h])
      rw [List.drop_zero, Int.one_mul] at h2
      exact ⟨by omega, by simpa using c.2, h1.1, .inr ⟨by simpa using z, h2⟩⟩
theorem pos_mem {l : List Int} (h : ∀ i : Nat, i < l.length → 1 ≤ rd l i) : ∀ x ∈ l, 1 ≤ x := by
  intro x hx
  obtain ⟨i, hi, rfl⟩ := List.getElem_of_mem hx
  rw [← rd_nat l i hi]
  exact h i hi
theorem contains_rd {l : List Int} (h : l.contains 0 = false) (i : Nat) (hi : i < l.length) : rd l i ≠ 0 := by
  rw [rd_nat l i hi]
  intro e
  have h3 : (0 : Int) ∈ l := by rw [← e]; exact List.getElem_mem hi
  rw [List.contains_iff_mem.2 h3] at h
  cases h
theorem ints_nprod (N : List Nat) : lprod (ints N) = nprod N := by
  induction N with
  | nil => rfl
  | cons a N ih =>
    show (a : Int) * lprod (ints N) = _
    rw [ih, nprod_cons]
    simp
theorem selN_one {l0 : List Int} (cnt blk : List Int) (h : ∀ i : Nat, i < l0.length → 0 ≤ rd l0 i) : ints (selN l0 1 cnt blk) = l0 := by
  apply List.ext_getElem
  · simp [ints, selN]
  · intro i h1 h2
    have := h i h2
    rw [rd_nat l0 i h2] at this
    simp [ints, selN, rd, h2]
    omega
theorem selN_zip {l0 cnt blk : List Int} {kind : Int} (hk : kind ≠ 1) (e3 : cnt.length = l0.length) (e4 : blk.length = l0.length) : selN l0 kind cnt blk = List.zipWith (fun a b => (a * b).toNat) cnt blk := by
  apply List.ext_getElem
  · simp [selN, e3, e4]
  · intro i h1 h2
    have hi : i < l0.length := by simpa [selN] using h1
    simp [selN, hk, rd, e3, e4, hi]
theorem nprod_zip : ∀ (a b : List Int), a.length = b.length → (∀ x ∈ a, 0 ≤ x) → (∀ x ∈ b, 0 ≤ x) → (nprod (List.zipWith (fun a b => (a * b).toNat) a b) : Int) = lprod a * lprod b
  | [], [], _, _, _ => by simp [nprod, lprod]
  | x :: a, y :: b, h, h1, h2 => by
    have ih := nprod_zip a b (by simpa using h) (fun z hz => h1 z (by simp [hz])) (fun z hz => h2 z (by simp [hz]))
    have hx := h1 x (by simp)
    have hy := h2 y (by simp)
    have hxy : 0 ≤ x * y := Int.mul_nonneg hx hy
    rw [List.zipWith_cons_cons, nprod_cons, lprod_cons, lprod_cons, Int.natCast_mul, ih, Int.toNat_of_nonneg hxy]
    rw [Int.mul_assoc, Int.mul_assoc, Int.mul_left_comm y]
theorem neg_mem {l : List Int} (h : l.any negDim = false) : ∀ x ∈ l, 0 ≤ x := by
  intro x hx
  have := List.any_eq_false.1 h x hx
  simp [negDim] at this
  omega
theorem any_range' {p : Nat → Bool} {n : Nat} (h : (List.range' 0 n).any p = false) (d : Nat) (hd : d < n) : p d = false := by
  have := List.any_eq_false.1 h d (by simp [List.mem_range']; omega)
  simpa using this
theorem nprod_pos {M : List Nat} (h : ∀ x ∈ M, 1 ≤ x) : 1 ≤ nprod M := by
  induction M with
  | nil => simp [nprod]
  | cons a M ih =>
    rw [nprod_cons]
    exact Nat.le_trans (ih (fun x hx => h x (by simp [hx]))) (Nat.le_mul_of_pos_left _ (h a (by simp)))
theorem getD_le_nprod : ∀ (M : List Nat) (d : Nat), (∀ x ∈ M, 1 ≤ x) → M.getD d 0 ≤ nprod M
  | [], d, _ => by simp
  | a :: M, 0, h => by
    rw [nprod_cons, List.getD_cons_zero]
    exact Nat.le_mul_of_pos_right _ (nprod_pos (fun x hx => h x (by simp [hx])))
  | a :: M, d + 1, h => by
    rw [nprod_cons, List.getD_cons_succ]
    exact Nat.le_trans (getD_le_nprod M d (fun x hx => h x (by simp [hx]))) (Nat.le_mul_of_pos_left _ (h a (by simp)))
structure Good (l0 : List Int) (kind : Int) (pts : List (List Int)) (start stride cnt blk : List Int) (n : Int) : Prop where
  ok : SelOk l0 kind start stride cnt blk
  len : ((selTuples l0 kind pts start stride cnt blk).length : Int) = n
  pos : 0 < n
  cap : n ≤ 4096
  within : ∀ x ∈ selTuples l0 kind pts start stride cnt blk, Within l0 x
theorem measured_good {l0 : List Int} {kind : Int} {pts : List (List Int)} {start stride cnt blk : List Int} {n : Int}
    (h : measuredT l0 kind pts start stride cnt blk = (n, 0)) (hn : n ≠ 0) : Good l0 kind pts start stride cnt blk n := by
  unfold measuredT at h
  have he : (elemsT l0).2 = 0 := by
    by_cases c : (elemsT l0).2 = 0
    · exact c
    · rw [if_neg c] at h
      simp only [Prod.mk.injEq] at h
      exact absurd h.2 c
  rw [if_pos he] at h
  obtain ⟨g1, g2, g3, g4⟩ := elems_good he
  have hdim := good_rd g2
  have capE : ∀ m : Int, capT m = (n, 0) → m = n ∧ n ≤ 4096 := by
    intro m hm
    unfold capT at hm
    split at hm
    · simp at hm
    · simp only [Prod.mk.injEq] at hm
      omega
  by_cases k1 : kind = 1
  · subst k1
    rw [if_pos rfl] at h
    obtain ⟨e1, e2⟩ := capE _ h
    rcases g4 with g4 | ⟨g4, g5⟩
    · omega
    · have hd1 : ∀ d : Nat, d < l0.length → 1 ≤ rd l0 d := fun d hd => by have := hdim d hd; have := contains_rd g4 d hd; omega
      have hNl := selN_length l0 1 cnt blk
      have hN := selN_one cnt blk (fun d hd => (hdim d hd).1)
      have hp : ((selTuples l0 1 pts start stride cnt blk).length : Int) = n := by
        unfold selTuples
        rw [if_neg (by omega), List.length_map, lex_length, ← ints_nprod, hN, ← g5, e1]
      refine ⟨.inr ⟨g1, .inl ⟨rfl, fun d hd => ⟨hd1 d hd, (hdim d hd).2⟩⟩⟩, hp, by omega, e2, fun x hx => ?_⟩
      unfold selTuples at hx
      rw [if_neg (by omega), List.mem_map] at hx
      obtain ⟨s, hs, rfl⟩ := hx
      obtain ⟨s1, s2⟩ := lex_mem _ s hs
      refine ⟨by rw [tupAt_length, s1, hNl], fun d hd => ?_⟩
      have h7 := s2 d (by omega)
      rw [selN_getD _ _ _ _ _ hd, if_pos rfl] at h7
      rw [tupAt_rd _ _ _ (by omega)]
      have := hd1 d hd
      simp only [selAv, if_true]
      omega
  · rw [if_neg k1] at h
    by_cases k2 : kind = 2 ∧ pts.all (rightOne l0.length) = true
    · rw [if_pos k2] at h
      obtain ⟨rfl, hr⟩ := k2
      by_cases ho : outT l0 pts = true
      · rw [if_pos ho] at h
        simp at h
      · rw [if_neg ho] at h
        obtain ⟨e1, e2⟩ := capE _ h
        have ho : outT l0 pts = false := by simpa using ho
        refine ⟨.inl rfl, by unfold selTuples; rw [if_pos rfl]; exact e1, by omega, e2, fun x hx => ?_⟩
        unfold selTuples at hx
        rw [if_pos rfl] at hx
        obtain ⟨r1, r2⟩ := right_nonneg (List.all_eq_true.1 hr x hx)
        refine ⟨r1, fun d hd => ⟨neg_rd r2 d (by omega), ?_⟩⟩
        have h8 := List.any_eq_false.1 ho x hx
        have h9 : outAt l0 x 0 = false := by simpa using h8
        unfold outAt at h9
        have := any_range' h9 d (by omega)
        simpa using this
    · rw [if_neg k2] at h
      by_cases k3 : kind = 3 ∧ slabR l0.length start stride cnt blk = true
      · rw [if_pos k3] at h
        obtain ⟨rfl, hs⟩ := k3
        unfold slabR at hs
        simp only [List.all_cons, List.all_nil, Bool.and_true, Bool.and_eq_true] at hs
        obtain ⟨r1, r2, r3, r4⟩ := hs
        obtain ⟨e1, n1⟩ := right_nonneg r1
        obtain ⟨e2, n2⟩ := right_nonneg r2
        obtain ⟨e3, n3⟩ := right_nonneg r3
        obtain ⟨e4, n4⟩ := right_nonneg r4
        by_cases hb : manyT (cnt ++ blk) > 0 ∧ beyondAt l0 start stride cnt blk 0 = true
        · rw [if_pos hb] at h
          simp at h
        · rw [if_neg hb] at h
          obtain ⟨m1, m2⟩ := capE _ h
          have hz : (cnt ++ blk).contains 0 = false := by
            cases z : (cnt ++ blk).contains 0 with
            | false => rfl
            | true => unfold manyT at m1; rw [if_pos z] at m1; omega
          have hneg : (cnt ++ blk).any negDim = false := by rw [List.any_append, n3, n4]; rfl
          have hpos : ∀ i : Nat, i < (cnt ++ blk).length → 1 ≤ rd (cnt ++ blk) i := fun i hi => pos_rd hneg hz i hi
          have hpm := pos_mem hpos
          have hc1 : ∀ d : Nat, d < l0.length → 1 ≤ rd cnt d := fun d hd => by rw [rd_nat cnt d (by omega)]; exact hpm _ (List.mem_append_left _ (List.getElem_mem _))
          have hb1 : ∀ d : Nat, d < l0.length → 1 ≤ rd blk d := fun d hd => by rw [rd_nat blk d (by omega)]; exact hpm _ (List.mem_append_right _ (List.getElem_mem _))
          have hmany : manyT (cnt ++ blk) = lprod cnt * lprod blk := by
            have hz' : ¬ (cnt ++ blk).contains 0 = true := by rw [hz]; simp
            unfold manyT at m1 ⊢
            rw [if_neg hz'] at m1 ⊢
            have := manyLoop_ok (cnt ++ blk) (cnt ++ blk).length 0 1 (by omega) (by omega) (by omega)
            rw [List.drop_zero, Int.one_mul, lprod_append] at this
            exact this
          have hmpos : 0 < manyT (cnt ++ blk) := by
            rw [hmany]
            have a1 := lprod_pos (fun x hx => hpm x (List.mem_append_left _ hx))
            have a2 := lprod_pos (fun x hx => hpm x (List.mem_append_right _ hx))
            have : 1 * 1 ≤ lprod cnt * lprod blk := Int.mul_le_mul a1 a2 (by omega) (by omega)
            omega
          have hbey : beyondAt l0 start stride cnt blk 0 = false := by
            cases z : beyondAt l0 start stride cnt blk 0 with
            | false => rfl
            | true => exact absurd ⟨hmpos, z⟩ hb
          have hN : selN l0 3 cnt blk = List.zipWith (fun a b => (a * b).toNat) cnt blk := selN_zip (by omega) e3 e4
          have hNp : (nprod (selN l0 3 cnt blk) : Int) = n := by
            rw [hN, nprod_zip cnt blk (by omega) (neg_mem n3) (neg_mem n4), ← hmany, m1]
          have hshare : ∀ d : Nat, d < l0.length → rd cnt d * rd blk d ≤ 4096 := by
            intro d hd
            have h7 := selN_getD l0 3 cnt blk d hd
            rw [if_neg (by omega)] at h7
            have h8 : 1 * 1 ≤ rd cnt d * rd blk d := Int.mul_le_mul (hc1 d hd) (hb1 d hd) (by omega) (by have := hc1 d hd; omega)
            have hall : ∀ x ∈ selN l0 3 cnt blk, 1 ≤ x := by
              intro x hx
              obtain ⟨i, hi, rfl⟩ := List.getElem_of_mem hx
              have hi' : i < l0.length := by simpa [selN] using hi
              have h10 := selN_getD l0 3 cnt blk i hi'
              rw [if_neg (by omega)] at h10
              have h11 : 1 * 1 ≤ rd cnt i * rd blk i := Int.mul_le_mul (hc1 i hi') (hb1 i hi') (by omega) (by have := hc1 i hi'; omega)
              have h12 : (selN l0 3 cnt blk).getD i 0 = (selN l0 3 cnt blk)[i] := by simp [List.getD_eq_getElem?_getD, hi]
              omega
            have h9 := getD_le_nprod (selN l0 3 cnt blk) d hall
            omega
          have hlast : ∀ d : Nat, d < l0.length → 0 ≤ rd start d ∧ 0 ≤ rd stride d ∧ rd start d + (rd cnt d - 1) * rd stride d + rd blk d ≤ rd l0 d := by
            intro d hd
            have hst := neg_rd n1 d (by omega)
            have hsr := neg_rd n2 d (by omega)
            refine ⟨hst, hsr, ?_⟩
            unfold beyondAt at hbey
            have h7 := any_range' hbey d (by omega)
            unfold beyondT at h7
            rw [Bool.or_eq_false_iff, decide_eq_false_iff_not] at h7
            obtain ⟨h7, h8⟩ := h7
            by_cases hz0 : 0 < rd stride d
            · rw [decide_eq_true hz0, Bool.true_and, decide_eq_false_iff_not] at h8
              have h9 : rd cnt d - 1 ≤ (rd l0 d - rd start d - rd blk d) / rd stride d := by omega
              have h10 := (Int.le_ediv_iff_mul_le hz0).1 h9
              omega
            · have : rd stride d = 0 := by omega
              rw [this, Int.mul_zero]
              omega
          refine ⟨.inr ⟨g1, .inr ⟨by omega, e1, e2, e3, e4, fun d hd => ⟨hc1 d hd, hb1 d hd, hshare d hd, (hlast d hd).1, (hlast d hd).2.1, by have := (hlast d hd).2.2; have := (hdim d hd).2; omega⟩⟩⟩, ?_, by omega, m2, fun x hx => ?_⟩
          · unfold selTuples
            rw [if_neg (by omega), List.length_map, lex_length]
            exact hNp
          · unfold selTuples at hx
            rw [if_neg (by omega), List.mem_map] at hx
            obtain ⟨s, hs, rfl⟩ := hx
            obtain ⟨s1, s2⟩ := lex_mem _ s hs
            have hNl := selN_length l0 3 cnt blk
            refine ⟨by rw [tupAt_length, s1, hNl], fun d hd => ?_⟩
            have h7 := s2 d (by omega)
            rw [selN_getD _ _ _ _ _ hd, if_neg (by omega)] at h7
            rw [tupAt_rd _ _ _ (by omega)]
            generalize s.getD d 0 = k at h7
            obtain ⟨l1, l2, l3⟩ := hlast d hd
            have c1 := hc1 d hd
            have b1 := hb1 d hd
            unfold selAv
            rw [if_neg (by omega)]
            have hq0 : 0 ≤ (k : Int) / rd blk d := Int.ediv_nonneg (by omega) (by omega)
            have hm0 : 0 ≤ (k : Int) % rd blk d := Int.emod_nonneg _ (by omega)
            have hm1 : (k : Int) % rd blk d < rd blk d := Int.emod_lt_of_pos _ (by omega)
            have hq1 : (k : Int) / rd blk d < rd cnt d := by
              rw [Int.ediv_lt_iff_lt_mul (by omega)]
              omega
            have hp0 : 0 ≤ (k : Int) / rd blk d * rd stride d := Int.mul_nonneg hq0 l2
            have hp1 : (k : Int) / rd blk d * rd stride d ≤ (rd cnt d - 1) * rd stride d := Int.mul_le_mul_of_nonneg_right (by omega) l2
            omega
      · rw [if_neg k3] at h
        simp at h
def placesT (l0 : List Int) (kind : Int) (pts : List (List Int)) (start stride cnt blk : List Int) : List Int × Int :=
  if (measuredT l0 kind pts start stride cnt blk).2 = 0 then (if (measuredT l0 kind pts start stride cnt blk).1 = 0 then ([], 0) else ((selTuples l0 kind pts start stride cnt blk).map (placeOf l0), 0))
  else ([], (measuredT l0 kind pts start stride cnt blk).2)
theorem lawInts_l0 (a b : List Int) (hm : a.length ≤ 9223372036854775807) (hl : a.length = b.length) : ∀ (d i : Nat), a.length - i = d → i ≤ a.length → Ev (fun k => slabvaultlaw12_ints.l0 k a b i) (decide (a.drop i = b.drop i)) := by
  intro d
  induction d with
  | zero =>
    intro i h hi
    rw [List.drop_eq_nil_of_le (by omega), List.drop_eq_nil_of_le (by omega)]
    refine Ev.step (f := fun _ => some true) (fun k => ?_) (Ev.now _)
    simp only [slabvaultlaw12_ints.l0]
    rw [if_neg (by omega)]
  | succ d ih =>
    intro i h hi
    have hlt : i < a.length := by omega
    rw [drop_rd a i hlt, drop_rd b i (by omega)]
    by_cases c : rd a i = rd b i
    · refine Ev.step (f := fun k => slabvaultlaw12_ints.l0 k a b ((i + 1 : Nat) : Int)) (fun k => ?_) (by rw [c]; simpa using ih (i + 1) (by omega) (by omega))
      simp only [slabvaultlaw12_ints.l0]
      rw [if_pos (by omega), if_pos (by omega), if_pos (by omega), if_pos c, wrap_up hlt hm]
    · refine Ev.step (f := fun _ => some false) (fun k => ?_) (by rw [show decide (rd a i :: a.drop (i + 1) = rd b i :: b.drop (i + 1)) = false by simp [c]]; exact Ev.now _)
      simp only [slabvaultlaw12_ints.l0]
      rw [if_pos (by omega), if_pos (by omega), if_pos (by omega), if_neg c]
theorem lawInts_ev (a b : List Int) (hm : a.length ≤ 9223372036854775807) : Ev (fun k => slabvaultlaw12_ints.f k a b) (decide (a = b)) := by
  by_cases hl : a.length = b.length
  · refine Ev.congr (f := fun k => slabvaultlaw12_ints.l0 k a b ((0 : Nat) : Int)) (fun k => ?_) (by simpa using lawInts_l0 a b hm hl a.length 0 (by omega) (by omega))
    unfold slabvaultlaw12_ints.f
    rw [if_pos (by omega)]
    rfl
  · refine Ev.congr (f := fun _ => some false) (fun k => ?_) (by rw [show decide (a = b) = false by simp; intro e; exact hl (by rw [e])]; exact Ev.now _)
    unfold slabvaultlaw12_ints.f
    rw [if_neg (by omega)]
end Go.Proofs.Ytjbjofmcmjojlaa.Pure
end
