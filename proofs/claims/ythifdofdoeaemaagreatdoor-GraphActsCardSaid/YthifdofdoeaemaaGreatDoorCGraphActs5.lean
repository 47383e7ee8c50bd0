-- Texts that the row GraphActs leans on, joined by wip/tools/mkclaim.py: GRCopy, GReachG, GDelete, GReachA, GRLoad, GLawLoads, GBoth, GLawGone, GLawHeld, GActed, GPair, GLawActs
import Derived.Test.YthifdofdoeaemaaGreatDoorCGraphActs4
import Derived.Test.YthifdofdoeaemaaGreatDoorProg
import Derived.Below
import Derived.Deep.Draws
import Derived.Deep.AppendLies
import Derived.Maps.AppendAt
import Derived.OwnWalk
import Derived.Laws.BytesArg
import Derived.Laws.MakeOwn
import Derived.Laws.OwnMore
import Derived.Deep.OwnRows
import Derived.Tactics
import Derived.Lib.ConvBytes
import Derived.Laws.Slices
import Derived.WalkKit
import Derived.KernelRfl
import Derived.RowKit3
import Derived.Deep.LoopGhost
import Derived.Deep.QuietTactic
import Derived.BigQuiet
import Derived.WideLaws
import Derived.Deep.DeepCutAuto
import Derived.Deep.CutBlock
import Derived.Deep.RegionHeld3
import Derived.Laws.Rows
import Derived.Lib.AppendStr
import Derived.ArgAppend
import Derived.Laws.IdiomCopy
import Derived.OrdersHeld
import Derived.Laws.BitsLemmas
import Derived.RowKit
import Derived.WalkSpells
import Derived.Sort.LoopGhostIn
import Derived.Sort.CutIn
import Derived.Shelf.Abstract
import Derived.Shelf.RegionOpen
import Derived.OwnWalkIn
import Derived.TacticsInMore
import Derived.LoopNIn
import Derived.LoopIn
section
namespace Go.Proofs.YthifdofdoeaemaaGreatDoor.Wk
open Go.RowKit Go.Proofs.YthifdofdoeaemaaGreatDoorW.PrintWords Go.Proofs.YthifdofdoeaemaaGreatDoorW.PrintLast Go.Proofs.YthifdofdoeaemaaGreatDoorW.PrintMore
attribute [local go_sem] max2_int min2_int max_two min_two max_three min_three max_four min_four
set_option linter.unusedVariables false
set_option linter.unusedSimpArgs false
section
open Go.RowKit Go.Lib Go.Maps Go.Proofs.YthifdofdoeaemaaGreatDoorQ
attribute [local go_sem] Oper.semAt_some
theorem RefAt.F {W : World} {base g : Nat} {next : Int} {v : Value} {l : List (Int × GO)} (h : RefAt W base g next v l) : RefF W (fun k => base ≤ k ∧ k < W.heap.size) g next l := by
  obtain ⟨sl, n1, n2, n3⟩ := h.objs
  exact ⟨⟨h.lo, blk_lt h.blk⟩, v, sl, h.blk, n1, n2.mono (Nat.zero_le _), fun k hk => n2.lt k hk, fun j x u hx hu => ⟨(n3 j x u hx hu).mono (Nat.zero_le _), fun k hk => (n3 j x u hx hu).lt k hk⟩⟩
theorem mineR_new {w0 w w' : World} (hb : Below w0.heap.size w0 w) {g : Nat} {next : Int} {v : Value} {l : List (Int × GO)} (h : RefAt w' w.heap.size g next v l) (hb' : Below w.heap.size w w') : MineR w0 w' g (fun k => w.heap.size ≤ k ∧ k < w'.heap.size) next l :=
  ⟨h.F, fun k hk => ⟨Nat.le_trans hb.size hk.1, hk.2⟩, hb.trans (hb'.mono hb.size)⟩
theorem objs_nil (W : World) (base : Nat) : ObjsAt W base (.slice none 0 0) [] := ⟨[], rfl, World.ownsRow_nil _ _ _ _, fun j x u hx _ => by simp at hx⟩
set_option maxHeartbeats 16000000 in
set_option maxRecDepth 100000 in
theorem refCopy_calls (w : World) (g : Nat) (next : Int) (A : Option Addr) (c : Nat) (l : List (Int × GO)) (hr : RefR w g next A c l) (hb : l.length ≤ bound) (hlb : ∀ x ∈ l, x.2.links.length ≤ bound) :
    Calls Tryz.prog 36 #[.pointer (some ⟨g, 0, none⟩)] w fun e w' => ∃ v, e = .returned (.pointer (some ⟨w.heap.size, 0, none⟩)) ∧ RefAt w' w.heap.size w.heap.size next v l ∧ Below w.heap.size w w' := by
  obtain ⟨W1, hW1⟩ : ∃ W1, W1 = w.alloc (.cells #[.int .i64 next, .slice none 0 0] 104 (0, 0)) := ⟨_, rfl⟩
  have hb1 : Below w.heap.size w W1 := by rw [hW1]; exact below_alloc (Below.refl _ _) _
  have HRA1 : Aside0 (RefAt W1 w.heap.size w.heap.size next (.slice none 0 0) []) := ⟨⟨Nat.le_refl _, by rw [hW1]; exact World.alloc_heap_new _ _, objs_nil _ _⟩⟩
  have c0 := hr.c0
  have HR := Aside0.mk hr
  have HB := Aside0.mk hb
  have HLB := Aside0.mk hlb
  have HB1 := Aside0.mk hb1
  have HW1 := Aside0.mk hW1
  clear hr hb hlb hb1 hW1
  go_enter Tryz.func36, Tryz.ntmps36
  go_upto_region 2 with (fail)
  rw [← HW1.out]
  obtain ⟨gg, hgg⟩ : ∃ gg, gg = w.heap.size := ⟨_, rfl⟩
  rw [← hgg]
  have HGG := Aside0.mk hgg
  have HRG : Aside0 (RefAt W1 w.heap.size gg next (.slice none 0 0) []) := ⟨by rw [HGG.out]; exact HRA1.out⟩
  clear hgg c0 HRA1 HW1
  go_upto_region 3 with (fail)
  go_loopg [4] l.length (fun kq v4 W => ∃ (i : Nat) (iv : Int) (v : Value), v4 = .int .i64 iv ∧ Aside0 (iv = (i : Int)) ∧ Aside0 (i ≤ l.length ∧ l.length - i ≤ kq) ∧ Aside0 (RefAt W w.heap.size gg next v (l.take i)) ∧ Aside0 (Below w.heap.size w W))
  case atStart => exact ⟨0, 0, _, rfl, ⟨rfl⟩, ⟨by omega, by omega⟩, HRG, HB1⟩
  case round =>
    obtain ⟨i, iv, v, rfl, HIV, HI, HG, HBW⟩ := hrel
    have c1 := (HR.out.below HBW.out).c1
    by_cases hlt : i < l.length
    · obtain ⟨x, hx⟩ : ∃ x, l[i]? = some x := ⟨_, List.getElem?_eq_getElem hlt⟩
      obtain ⟨b, o, Ax, cx, rfl, -, y0, y1, y2, y3, hcx, hlr⟩ := (HR.out.below HBW.out).objs.at hx
      have HTK : Aside0 (l.take (i + 1) = l.take i ++ [x]) := ⟨by obtain ⟨h1, e1⟩ := List.getElem?_eq_some_iff.1 hx; rw [List.take_succ_eq_append_getElem h1, e1]⟩
      have HTL : Aside0 ((l.take i).length = i) := ⟨by rw [List.length_take]; omega⟩
      have HXB := Aside0.mk (HLB.out x (List.mem_of_getElem? hx))
      obtain ⟨W2, hW2⟩ : ∃ W2, W2 = wr.alloc (.cells #[.int .i64 x.1, .int .i64 x.2.kind, .slice Ax x.2.links.length cx, .int .i64 x.2.held] 106 (0, 0)) := ⟨_, rfl⟩
      have hb2 : Below wr.heap.size wr W2 := by rw [hW2]; exact below_alloc (Below.refl _ _) _
      have ho2 : W2.heap[wr.heap.size]? = some (.cells #[.int .i64 x.1, .int .i64 x.2.kind, .slice Ax x.2.links.length cx, .int .i64 x.2.held] 106 (0, 0)) := by rw [hW2]; exact World.alloc_heap_new _ _
      obtain ⟨ob, hob⟩ : ∃ ob, ob = wr.heap.size := ⟨_, rfl⟩
      rw [← hob] at ho2
      obtain ⟨A5, c5, w5, hr5, ho5, hb5⟩ := links_copied W2 (A := Ax) (n := x.2.links.length) (c := cx) (hlr.below hb2) rfl HXB.out
      have ho5' := (hb5.block ob (blk_lt ho2)).trans ho2
      have z2 : W2.cell? ⟨ob, 2, none⟩ = some (.slice Ax x.2.links.length cx) := (blk_cell ho2 2).trans rfl
      have z2' : (W2.alloc (.cells #[] 42 (0, 0))).cell? ⟨ob, 2, none⟩ = some (.slice Ax x.2.links.length cx) := ((below_alloc (Below.refl _ _) _).cell (p := ⟨ob, 2, none⟩) (blk_lt ho2)).trans z2
      have z5 : w5.cell? ⟨ob, 2, none⟩ = some (.slice Ax x.2.links.length cx) := (blk_cell ho5' 2).trans rfl
      have f5 : w5.frozen? ⟨ob, 2, none⟩ = false := blk_frozen ho5' 2
      have q1 : decide (iv < (l.length : Int)) = true := decide_eq_true (by have := HIV.out; omega)
      have q2 : (iv < (l.length : Int)) = True := eq_true (by have := HIV.out; omega)
      have q3 : ((0 : Int) ≤ iv) = True := eq_true (by have := HIV.out; omega)
      have q4 : iv.toNat = i := by have := HIV.out; omega
      have w1_ : wrap64 (iv + 1) = iv + 1 := wrap_ok9 _ (by have := HIV.out; omega) (by have := HIV.out; have := HB.out; unfold bound at this; omega)
      have HLT := Aside0.mk hlt
      have HO5 := Aside0.mk ho5
      have HR5 := Aside0.mk hr5
      have HB2 := Aside0.mk hb2
      have HB5 := Aside0.mk hb5
      have HO5' := Aside0.mk ho5'
      have HW2 := Aside0.mk hW2
      have HOB := Aside0.mk hob
      clear hr5 hx hlt ho5 hb2 hb5 ho5' hW2 ho2 hlr hcx
      go_upto_region 6 with (fail)
      rw [← HW2.out, ← HOB.out]
      clear c1 y0 y1 y2 y3 q1 q2 q3 q4 hob
      go_upto_region 7 with (at_builtin; refine wpList_append_run rfl _ _ 38 rfl rfl rfl HR5.out ?_)
      obtain ⟨w6, hw6⟩ : ∃ w6, w6 = w5.setCell ⟨ob, 2, none⟩ (.slice A5 x.2.links.length c5) := ⟨_, rfl⟩
      rw [← hw6]
      have hobb : wr.heap.size ≤ ob := by rw [HOB.out]; exact Nat.le_refl _
      have HB6 : Aside0 (Below wr.heap.size wr w6) := ⟨by rw [hw6]; exact (HB2.out.trans (HB5.out.mono HB2.out.size)).setCell hobb _⟩
      have hb6 : w6.heap[ob]? = some (.cells #[.int .i64 x.1, .int .i64 x.2.kind, .slice A5 x.2.links.length c5, .int .i64 x.2.held] 106 (0, 0)) := by rw [hw6]; exact (blk_set HO5'.out 2 _).trans rfl
      have hl6 : w6.ownsRow w.heap.size 42 3 (.slice A5 x.2.links.length c5) x.2.links.length (cells3 x.2.links) := by
        rw [hw6]
        exact (own_move HO5.out (fun k hk => Below.heap_setCell _ _ _ _ (own_apart HO5.out HO5'.out (by decide) hk))).mono (Nat.le_trans HBW.out.size HB2.out.size)
      have b0 : w6.cell? ⟨ob, 0, none⟩ = some (.int .i64 x.1) := (blk_cell hb6 0).trans rfl
      have b1 : w6.cell? ⟨ob, 1, none⟩ = some (.int .i64 x.2.kind) := (blk_cell hb6 1).trans rfl
      have b2 : w6.cell? ⟨ob, 2, none⟩ = some (.slice A5 x.2.links.length c5) := (blk_cell hb6 2).trans rfl
      have b3 : w6.cell? ⟨ob, 3, none⟩ = some (.int .i64 x.2.held) := (blk_cell hb6 3).trans rfl
      have HG6 := Aside0.mk (HG.out.below HB6.out)
      have g1 : w6.cell? ⟨gg, 1, none⟩ = some v := (blk_cell HG6.out.blk 1).trans rfl
      have HL6 := Aside0.mk hl6
      clear z2 z2' z5 f5 hw6 hobb hb6 hl6
      obtain ⟨A7, c7, w8, hr7, hpush, hg8⟩ := obj_pushed (wr := w6) (w5 := w6.drew) (x := x) HG6.out.objs (below_drew (Below.refl _ _)) (Nat.le_trans HBW.out.size HB6.out.size) (own_move HL6.out (fun _ _ => rfl)) (by rw [HTL.out]; have := HLT.out; have := HB.out; unfold bound at *; omega)
      rw [HTL.out] at hr7 hpush
      rw [← HTK.out] at hpush
      have hin : RefAt (w6.drew.alloc (.cells #[.int .i64 x.1, .int .i64 x.2.kind, .slice A5 x.2.links.length c5, .int .i64 x.2.held] 106 (0, 0))) w.heap.size gg next v (l.take i) := (HG6.out.below (below_drew (Below.refl _ _))).below (below_alloc (Below.refl _ _) _)
      have hbb : Below w.heap.size w w8 := (HBW.out.trans ((HB6.out.trans ((below_drew (below_alloc (Below.refl _ _) _)).mono HB6.out.size)).mono HBW.out.size)).grown hg8 (by have := HBW.out.size; have := HB6.out.size; have := (below_alloc (Below.refl w6.heap.size w6) (.cells #[.int .i64 x.1, .int .i64 x.2.kind, .slice A5 x.2.links.length c5, .int .i64 x.2.held] 106 (0, 0))).size; show w.heap.size ≤ (w6.alloc _).heap.size; omega) (fun k hk => (hin.objs.base hk).1)
      obtain ⟨hput, hblk⟩ := hin.put hg8 hpush
      have f8 : w8.frozen? ⟨gg, 1, none⟩ = false := blk_frozen hblk 1
      have f9 : w8.cell? ⟨gg, 1, none⟩ = some v := (blk_cell hblk 1).trans rfl
      have HR7 := Aside0.mk hr7
      have HPUT := Aside0.mk hput
      have HBB := Aside0.mk hbb
      clear hr7 hput hbb hpush hg8 hin hblk
      refine start_ (n := 11) (S := fun w' => w'.cell? ⟨gg, 1, none⟩ = some v ∧ w'.cell? ⟨ob, 0, none⟩ = some (.int .i64 x.1) ∧ w'.cell? ⟨ob, 1, none⟩ = some (.int .i64 x.2.kind) ∧ w'.cell? ⟨ob, 2, none⟩ = some (.slice A5 x.2.links.length c5) ∧ w'.cell? ⟨ob, 3, none⟩ = some (.int .i64 x.2.held)) (ds := [7, 10]) #[false, false, false, false, false, false, false, false, false, false, false] (by kernel_rfl) rfl rfl ⟨g1, b0, b1, b2, b3⟩ (fun hHeld => ?_)
      refine pure_ (i := 0) (N := some 33) (v := ?_) (a' := ?_) (bb 11 1) rfl rfl (by kernel_rfl) (fun _ _ _ h => h) (Or.inl ⟨by rfl, ?_⟩) ?_ ?_
      rotate_left
      · intro w'
        go_simp
        with_reducible rfl
      rotate_left
      · simp only [Act.put, sa, sz, ss, i64_w, i32_w]
        rfl
      refine pure_ (i := 1) (N := some 34) (v := ?_) (a' := ?_) (bb 11 3) rfl rfl (by kernel_rfl) (fun _ _ _ h => h) (Or.inl ⟨by rfl, ?_⟩) ?_ ?_
      rotate_left
      · intro w'
        go_simp
        with_reducible rfl
      rotate_left
      · simp only [Act.put, sa, sz, ss, i64_w, i32_w]
        rfl
      refine pure_ (i := 2) (N := some 35) (v := ?_) (a' := ?_) (bb 11 7) rfl rfl (by kernel_rfl) (fun _ _ _ h => h) (Or.inl ⟨by rfl, ?_⟩) ?_ ?_
      rotate_left
      · intro w'
        go_simp
        with_reducible rfl
      rotate_left
      · simp only [Act.put, sa, sz, ss, i64_w, i32_w]
        rfl
      refine pure_ (i := 3) (N := some 36) (v := ?_) (a' := ?_) (bb 11 15) rfl rfl (by kernel_rfl) (fun _ _ _ h => h) (Or.inl ⟨by rfl, ?_⟩) ?_ ?_
      rotate_left
      · intro w'
        go_simp
        with_reducible rfl
      rotate_left
      · simp only [Act.put, sa, sz, ss, i64_w, i32_w]
        rfl
      refine take_ (i := 4) (N := some 37) (v := ?_) (a' := ?_) (bb 11 31) rfl rfl (by kernel_rfl) (fun _ _ _ h => h) (Or.inl ⟨by rfl, ?_⟩) hHeld ?_ ?_
      rotate_left
      · rintro w' ⟨s0, s1, s2, s3, s4⟩
        go_simp
        with_reducible rfl
      rotate_left
      · simp only [Act.put, sa, sz, ss, i64_w, i32_w]
        rfl
      refine take_ (i := 5) (N := some 38) (v := ?_) (a' := ?_) (bb 11 63) rfl rfl (by kernel_rfl) (fun _ _ _ h => h) (Or.inl ⟨by rfl, ?_⟩) hHeld ?_ ?_
      rotate_left
      · rintro w' ⟨s0, s1, s2, s3, s4⟩
        go_simp
        with_reducible rfl
      rotate_left
      · simp only [Act.put, sa, sz, ss, i64_w, i32_w]
        rfl
      refine one_ (i := 6) (N := some 39) (bb 11 127) rfl rfl (by kernel_rfl) (by decide) (fun K hK => ?_)
      refine value_ (v := .slice (some ⟨w6.drew.heap.size, 0, none⟩) 1 1) (w1 := w6.drew.alloc (.cells #[.int .i64 x.1, .int .i64 x.2.kind, .slice A5 x.2.links.length c5, .int .i64 x.2.held] 106 (0, 0))) (by rfl) rfl (by go_simp) ?_
      refine hK.out _ _ ⟨((below_alloc (Below.refl _ _) _).cell (World.block_lt_of_cell? _ _ hHeld.1)).trans hHeld.1, ((below_alloc (Below.refl _ _) _).cell (World.block_lt_of_cell? _ _ hHeld.2.1)).trans hHeld.2.1, ((below_alloc (Below.refl _ _) _).cell (World.block_lt_of_cell? _ _ hHeld.2.2.1)).trans hHeld.2.2.1, ((below_alloc (Below.refl _ _) _).cell (World.block_lt_of_cell? _ _ hHeld.2.2.2.1)).trans hHeld.2.2.2.1, ((below_alloc (Below.refl _ _) _).cell (World.block_lt_of_cell? _ _ hHeld.2.2.2.2)).trans hHeld.2.2.2.2⟩ (fun hHeld => ?_)
      clear hK K
      refine norm_ (a' := ?_) ?_ ?_
      rotate_left
      · show Act.put _ (some 39) _ = _
        simp only [Act.put, sa, sz, ss, i64_w, i32_w]
        rfl
      refine last_ (i := 7) (N := some 40) (bb 11 255) rfl rfl (by kernel_rfl) (by decide) (fun K hK => ?_)
      refine step_append rfl (.tmp 37) (.tmp 39) 102 rfl rfl rfl HR7.out ?_
      refine hK.out _ _ ?_
      clear hK K
      refine norm_ (a' := ?_) ?_ ?_
      rotate_left
      · show Act.put _ (some 40) _ = _
        simp only [Act.put, sa, sz, ss, i64_w, i32_w]
        rfl
      refine pure_ (i := 8) (N := some 41) (v := ?_) (a' := ?_) (bb 11 511) rfl rfl (by kernel_rfl) (fun _ _ _ h => h) (Or.inl ⟨by rfl, ?_⟩) ?_ ?_
      rotate_left
      · intro w'
        go_simp
        with_reducible rfl
      rotate_left
      · simp only [Act.put, sa, sz, ss, i64_w, i32_w]
        rfl
      refine pure_ (i := 9) (N := some 42) (v := ?_) (a' := ?_) (bb 11 1023) rfl rfl (by kernel_rfl) (fun _ _ _ h => h) (Or.inl ⟨by rfl, ?_⟩) ?_ ?_
      rotate_left
      · intro w'
        go_simp
        with_reducible rfl
      rotate_left
      · simp only [Act.put, sa, sz, ss, i64_w, i32_w]
        rfl
      refine last_ (i := 10) (N := none) (bb 11 2047) rfl rfl (by kernel_rfl) (by decide) (fun K hK => ?_)
      refine skip_ (w1 := ?_) (by rfl) rfl ?_ ?_
      rotate_left
      · go_simp
        rfl
      refine hK.out _ _ ?_
      clear hK K
      refine done_ (by kernel_rfl) ?_
      clear g1 b0 b1 b2 b3 f8 f9
      go_wp2
      go_roundg (gk - 1)
      case measure => have := HI.out; have := HLT.out; omega
      case rel => exact ⟨i + 1, iv + 1, _, by first | rfl | rw [w1_], ⟨by have := HIV.out; omega⟩, ⟨by have := HLT.out; omega, by have := HI.out; omega⟩, HPUT, ⟨HBB.out.setCell (by rw [HGG.out]; exact Nat.le_refl _) _⟩⟩
    · have q1 : decide (iv < (l.length : Int)) = false := decide_eq_false (by have := HIV.out; omega)
      have q2 : (iv < (l.length : Int)) = False := eq_false (by have := HIV.out; omega)
      have HLT := Aside0.mk hlt
      clear hlt
      go_wp2
      go_ret
      exact ⟨v, by rw [HGG.out]; rfl, by have h9 := HG.out; rw [List.take_of_length_le (by have := HLT.out; omega), HGG.out] at h9; exact h9, HBW.out⟩
set_option maxHeartbeats 4000000 in
set_option maxRecDepth 100000 in
theorem refMade_calls (w : World) : Calls Tryz.prog 34 #[] w fun e w' => ∃ g v, e = .returned (.pointer (some ⟨g, 0, none⟩)) ∧ RefAt w' w.heap.size g newG.next v newG.objs ∧ Below w.heap.size w w' := by
  obtain ⟨W1, hW1⟩ : ∃ W1, W1 = w.alloc (.cells #[.int .i64 1, .int .i64 1, .slice none 0 0, .int .i64 0] 106 (0, 0)) := ⟨_, rfl⟩
  have hb1 : Below w.heap.size w W1 := by rw [hW1]; exact below_alloc (Below.refl _ _) _
  have hr1 : W1.ownsRow w.heap.size 106 4 (.slice (some ⟨w.heap.size, 0, none⟩) 1 1) 1 (objC newG.objs [.slice none 0 0]) := by
    rw [hW1]
    exact ⟨rfl, .inr ⟨_, 1, _, rfl, Nat.le_refl _, World.alloc_heap_new _ _, Nat.le_refl _, by decide, rfl, rfl⟩⟩
  obtain ⟨W2, hW2⟩ : ∃ W2, W2 = W1.alloc (.cells #[.int .i64 2, .slice (some ⟨w.heap.size, 0, none⟩) 1 1] 104 (0, 0)) := ⟨_, rfl⟩
  have hb2 : Below W1.heap.size W1 W2 := by rw [hW2]; exact below_alloc (Below.refl _ _) _
  have HR : Aside0 (RefAt W2 w.heap.size W1.heap.size newG.next (.slice (some ⟨w.heap.size, 0, none⟩) 1 1) newG.objs) := ⟨⟨hb1.size, by rw [hW2]; exact World.alloc_heap_new _ _, [.slice none 0 0], rfl, row_same hr1 (SameOn.of_below (S := fun _ => True) hb2) (fun _ _ => trivial), fun j x u hx hu => by
    match j, hx, hu with
    | 0, hx, hu => cases hx; cases hu; exact World.ownsRow_nil _ _ _ _⟩⟩
  have HB : Aside0 (Below w.heap.size w W2) := ⟨hb1.trans (hb2.mono hb1.size)⟩
  have HW1 := Aside0.mk hW1
  have HW2 := Aside0.mk hW2
  clear hW1 hW2 hb1 hb2 hr1
  go_enter Tryz.func34, Tryz.ntmps34
  go_wp2
  rw [← HW1.out, ← HW2.out]
  go_ret
  have hz : W1.heap.size = w.heap.size + 1 := by rw [HW1.out]; simp
  have h9 := HR.out
  rw [hz] at h9
  exact ⟨w.heap.size + 1, _, rfl, h9, HB.out⟩
end
end Go.Proofs.YthifdofdoeaemaaGreatDoor.Wk
end
section
namespace Go.Proofs.YthifdofdoeaemaaGreatDoor.Wk
open Go.RowKit Go.Proofs.YthifdofdoeaemaaGreatDoorW.PrintWords Go.Proofs.YthifdofdoeaemaaGreatDoorW.PrintLast Go.Proofs.YthifdofdoeaemaaGreatDoorW.PrintMore
attribute [local go_sem] max2_int min2_int max_two min_two max_three min_three max_four min_four
set_option linter.unusedVariables false
set_option linter.unusedSimpArgs false
section
open Go.RowKit Go.Lib Go.Maps Go.Proofs.YthifdofdoeaemaaGreatDoorQ
attribute [local go_sem] Oper.semAt_some
set_option maxHeartbeats 4000000 in
set_option maxRecDepth 100000 in
theorem reach1_calls (W : World) (c sb : Nat) (S : List (Int × GO)) (id kind : Int) (u : Value) (hc : W.cell? ⟨c, 0, none⟩ = some (.map (some sb))) (hS : SeenAt W sb S) (hw : (Lit.int .i64 id).wf = true) (r : Bool) (hr : r = true ↔ ¬ has S id) :
    Calls Tryz.prog 62 #[.agg #[.int .i64 id, .int .i64 kind, u], .pointer (some ⟨c, 0, none⟩)] W fun e w' => e = .returned (.bool r) ∧ Below W.heap.size W w' := by
  obtain ⟨W2, hW2⟩ : ∃ W2, W2 = W.alloc (.cells #[.int .i64 id, .int .i64 kind, u] 50 (0, 0)) := ⟨_, rfl⟩
  have hb2 : Below W.heap.size W W2 := by rw [hW2]; exact below_alloc (Below.refl _ _) _
  have hlk := (hS.step (W' := W2) (hb2.block _ hS.lt)).look id hw
  have hc2 : W2.cell? ⟨c, 0, none⟩ = some (.map (some sb)) := (hb2.cell (World.block_lt_of_cell? W _ hc)).trans hc
  have hi2 : W2.cell? ⟨W.heap.size, 0, none⟩ = some (.int .i64 id) := by rw [hW2]; exact (blk_cell (World.alloc_heap_new _ _) 0).trans rfl
  cases ha : (GS.mk 0 0 S).at id with
  | none =>
    rw [ha] at hlk
    simp only at hlk
    obtain rfl : r = true := hr.2 (has_at.1 ha)
    have HB2 := Aside0.mk hb2
    have HW2 := Aside0.mk hW2
    clear hb2 hS hc hW2 hr
    go_enter Tryz.func62, Tryz.ntmps62
    go_upto_region 1 with (fail)
    rw [← HW2.out]
    go_wp2
    go_ret
    exact ⟨rfl, HB2.out⟩
  | some o =>
    rw [ha] at hlk
    simp only at hlk
    have hh : has S id := by
      rcases Classical.em (has S id) with h | h
      · exact h
      · rw [has_at.2 h] at ha; cases ha
    obtain rfl : r = false := by
      cases r with
      | false => rfl
      | true => exact absurd hh (hr.1 rfl)
    have HB2 := Aside0.mk hb2
    have HW2 := Aside0.mk hW2
    clear hb2 hS hc hW2 hr
    go_enter Tryz.func62, Tryz.ntmps62
    go_upto_region 1 with (fail)
    rw [← HW2.out]
    go_wp2
    go_ret
    exact ⟨rfl, HB2.out⟩
set_option maxHeartbeats 4000000 in
set_option maxRecDepth 100000 in
theorem index_first (l : List (Int × GO)) (base : Nat) (A : Option Addr) (k : Nat) (w : World) (c sb : Nat) (S : List (Int × GO)) (hn : NodesAt w base (.slice A l.length k) l) (hc : w.cell? ⟨c, 0, none⟩ = some (.map (some sb))) (hS : SeenAt w sb S)
    (hwf : ∀ x ∈ l, (Lit.int .i64 x.1).wf = true) (hlen : l.length ≤ bound) :
    Calls Tryz.prog 85 #[.slice A l.length k, .func (.func 62) #[] #[.pointer (some ⟨c, 0, none⟩)]] w fun e w' => ∃ r : Int, e = .returned (.int .i64 r) ∧ Below w.heap.size w w' ∧
      ((r = -1 ∧ ∀ x ∈ l, has S x.1) ∨ ∃ i : Nat, r = (i : Int) ∧ i < l.length ∧ (∀ x ∈ l.take i, has S x.1) ∧ ∀ x, l[i]? = some x → ¬ has S x.1) := by
  have HN := Aside0.mk hn
  have HC := Aside0.mk hc
  have HS := Aside0.mk hS
  have HWF := Aside0.mk hwf
  have HLEN := Aside0.mk hlen
  clear hn hc hS hwf hlen
  go_enter Tryz.func85, Tryz.ntmps85
  go_wp2
  go_loopg [8] l.length (fun kq v8 W => ∃ (j : Nat) (jv : Int), v8 = .int .i64 jv ∧ Aside0 (jv = (j : Int)) ∧ Aside0 (j ≤ l.length ∧ l.length - j ≤ kq) ∧ Aside0 (∀ x ∈ l.take j, has S x.1) ∧ Aside0 (Below w.heap.size w W))
  case atStart => exact ⟨0, 0, rfl, ⟨rfl⟩, ⟨by omega, by omega⟩, ⟨by simp⟩, ⟨Below.refl _ _⟩⟩
  case round =>
    obtain ⟨j, jv, rfl, HJV, HJ, HT, HB⟩ := hrel
    by_cases hlt : j < l.length
    · obtain ⟨x, hx⟩ : ∃ x, l[j]? = some x := ⟨_, List.getElem?_eq_getElem hlt⟩
      have hxm : x ∈ l := List.mem_of_getElem? hx
      obtain ⟨g, k', sl, hv, -, hg, hnode⟩ := nodes_read HN.out (by omega)
      obtain ⟨rfl, rfl⟩ : A = some ⟨g, 0, none⟩ ∧ k = k' := by simpa using hv
      obtain ⟨Ax, cx, -, x1, x2, x3, -⟩ := hnode j x hx
      have y1 : wr.cell? ⟨g, j * 3, none⟩ = some (.int .i64 x.1) := (HB.out.cell (p := ⟨g, j * 3, none⟩) hg).trans x1
      have y2 : wr.cell? ⟨g, j * 3 + 1, none⟩ = some (.int .i64 x.2.kind) := (HB.out.cell (p := ⟨g, j * 3 + 1, none⟩) hg).trans x2
      have y3 : wr.cell? ⟨g, j * 3 + 2, none⟩ = some (.slice Ax x.2.links.length cx) := (HB.out.cell (p := ⟨g, j * 3 + 2, none⟩) hg).trans x3
      have HXM := Aside0.mk hxm
      have HX := Aside0.mk hx
      have HLT := Aside0.mk hlt
      have q1 : decide (jv < (l.length : Int)) = true := decide_eq_true (by have := HJV.out; omega)
      have q2 : (jv < (l.length : Int)) = True := eq_true (by have := HJV.out; omega)
      have q3 : (0 : Int) ≤ jv := by have := HJV.out; omega
      have q4 : jv.toNat = j := by have := HJV.out; omega
      have w1 : wrap64 (jv + 1) = jv + 1 := wrap_ok9 _ (by omega) (by have := HJV.out; have := HLEN.out; unfold bound at this; omega)
      have hcw : wr.cell? ⟨c, 0, none⟩ = some (.map (some sb)) := (HB.out.cell (World.block_lt_of_cell? w _ HC.out)).trans HC.out
      have HCW := Aside0.mk hcw
      have HSW := Aside0.mk (HS.out.step (HB.out.block _ HS.out.lt))
      clear hx hxm hv hg hnode x1 x2 x3 hlt hcw
      rcases Classical.em (has S x.1) with hh | hh
      · have HH := Aside0.mk hh
        clear hh
        go_wp2_with (go_at_call 62; refine (reach1_calls _ c sb S x.1 x.2.kind _ HCW.out HSW.out (HWF.out _ HXM.out) false ⟨fun h => (by cases h), fun h => absurd HH.out h⟩).mono ?_; rintro e_ w3 ⟨rfl, hb3⟩; have HB3 := Aside0.mk hb3; clear hb3)
        clear q4
        go_roundg (gk - 1)
        case measure => have := HJ.out; have := HLT.out; omega
        case rel => exact ⟨j + 1, jv + 1, by first | rfl | rw [w1], ⟨by have := HJV.out; omega⟩, ⟨by have := HLT.out; omega, by have := HJ.out; omega⟩, ⟨fun z hz => by
          rw [List.take_add_one, HX.out] at hz
          rcases List.mem_append.1 hz with hz | hz
          · exact HT.out z hz
          · obtain rfl : z = x := by simpa using hz
            exact HH.out⟩, ⟨HB.out.trans (HB3.out.mono HB.out.size)⟩⟩
      · have HH := Aside0.mk hh
        clear hh
        go_wp2_with (go_at_call 62; refine (reach1_calls _ c sb S x.1 x.2.kind _ HCW.out HSW.out (HWF.out _ HXM.out) true ⟨fun _ => HH.out, fun _ => rfl⟩).mono ?_; rintro e_ w3 ⟨rfl, hb3⟩; have HB3 := Aside0.mk hb3; clear hb3)
        go_ret
        exact ⟨jv, rfl, HB.out.trans (HB3.out.mono HB.out.size), .inr ⟨j, HJV.out, HLT.out, HT.out, fun z hz => by rw [HX.out] at hz; rw [← Option.some.inj hz]; exact HH.out⟩⟩
    · have q1 : decide (jv < (l.length : Int)) = false := decide_eq_false (by have := HJV.out; omega)
      have q2 : (jv < (l.length : Int)) = False := eq_false (by have := HJV.out; omega)
      have HLT := Aside0.mk hlt
      clear hlt
      go_wp2
      go_ret
      exact ⟨-1, rfl, HB.out, .inl ⟨rfl, by have := HT.out; rw [List.take_of_length_le (by have := HLT.out; omega)] at this; exact this⟩⟩
def nodeP (L : List ((Int × GO) × Value)) : List Value := L.flatMap (fun p => [.int .i64 p.1.1, .int .i64 p.1.2.kind, p.2])
theorem nodeP_zip : ∀ {l : List (Int × GO)} {sl : List Value}, sl.length = l.length → nodeC l sl = nodeP (l.zip sl)
  | [], [], _ => rfl
  | [], u :: sl, h => by simp at h
  | x :: l, [], h => by simp at h
  | x :: l, u :: sl, h => by
    have ih := nodeP_zip (l := l) (sl := sl) (by simpa using h)
    show _ :: _ :: _ :: nodeC l sl = _
    rw [ih]
    rfl
theorem nodeP_append (a b : List ((Int × GO) × Value)) : nodeP (a ++ b) = nodeP a ++ nodeP b := by unfold nodeP; exact List.flatMap_append
theorem nodeP_len : ∀ (a : List ((Int × GO) × Value)), (nodeP a).length = a.length * 3
  | [] => rfl
  | x :: a => by
    have := nodeP_len a
    unfold nodeP at this ⊢
    simp only [List.flatMap_cons, List.length_append, List.length_cons, List.length_nil, this]
    omega
theorem nodeP_unzip : ∀ (L : List ((Int × GO) × Value)), nodeP L = nodeC (L.map (·.1)) (L.map (·.2))
  | [] => rfl
  | p :: L => by
    show _ :: _ :: _ :: nodeP L = _
    rw [nodeP_unzip L]
    rfl
theorem set3 (a b : List Value) (x y z p q r : Value) {n : Nat} (hn : a.length = n) : (((a ++ p :: q :: r :: b).set n x).set (n + 1) y).set (n + 2) z = a ++ x :: y :: z :: b := by
  subst hn
  rw [List.set_append_right _ _ (Nat.le_refl _), Nat.sub_self, List.set_cons_zero, List.set_append_right _ _ (by omega), show a.length + 1 - a.length = 1 by omega, List.set_cons_succ, List.set_cons_zero, List.set_append_right _ _ (by omega), show a.length + 2 - a.length = 2 by omega, List.set_cons_succ, List.set_cons_succ, List.set_cons_zero]
theorem own_prefix {W : World} {base e size g n c : Nat} {xs : List Value} (h : W.ownsRow base e size (.slice (some ⟨g, 0, none⟩) n c) n xs) (m : Nat) (hm : m ≤ n) : W.ownsRow base e size (.slice (some ⟨g, 0, none⟩) m c) m (xs.take (m * size)) := by
  rcases h.2 with ⟨h1, -⟩ | ⟨g', cap, cur, h1, h2, h3, h4, h5, h6, h7⟩
  · cases h1
  · cases h1
    have hms : m * size ≤ n * size := Nat.mul_le_mul_right _ hm
    refine ⟨by rw [List.length_take, h.1]; omega, .inr ⟨g, c, cur, rfl, h2, h3, by omega, h5, h6, ?_⟩⟩
    rw [← h7, List.take_take, Nat.min_eq_left hms]
theorem own_setCells {base e size g n c : Nat} {xs : List Value} : ∀ (vs : List Value) (o : Nat) (W : World), W.ownsRow base e size (.slice (some ⟨g, 0, none⟩) n c) n xs → n * size ≤ o → (W.setCells g o vs).ownsRow base e size (.slice (some ⟨g, 0, none⟩) n c) n xs ∧ W.grownBy (W.setCells g o vs) (some g)
  | [], o, W, h, _ => ⟨h, World.grownBy.refl _ _⟩
  | v :: vs, o, W, h, ho => by
    obtain ⟨h1, h2⟩ := h.stored o v
    rw [List.set_eq_of_length_le (by rw [h.1]; exact ho)] at h1
    obtain ⟨h3, h4⟩ := own_setCells vs (o + 1) _ h1 (by omega)
    exact ⟨h3, ⟨h4.os.trans h2.os, h4.tape.trans h2.tape, h4.output.trans h2.output, Nat.le_trans h2.size h4.size, fun k hk hn => (h4.block k (Nat.lt_of_lt_of_le hk h2.size) hn).trans (h2.block k hk hn)⟩⟩
end
end Go.Proofs.YthifdofdoeaemaaGreatDoor.Wk
end
section
namespace Go.Proofs.YthifdofdoeaemaaGreatDoor.Wk
open Go.RowKit Go.Proofs.YthifdofdoeaemaaGreatDoorW.PrintWords Go.Proofs.YthifdofdoeaemaaGreatDoorW.PrintLast Go.Proofs.YthifdofdoeaemaaGreatDoorW.PrintMore
attribute [local go_sem] max2_int min2_int max_two min_two max_three min_three max_four min_four
set_option linter.unusedVariables false
set_option linter.unusedSimpArgs false
section
open Go.RowKit Go.Lib Go.Maps Go.Proofs.YthifdofdoeaemaaGreatDoorQ
attribute [local go_sem] Oper.semAt_some
open Classical in
noncomputable def seenF (S : List (Int × GO)) (l : List (Int × GO)) : List (Int × GO) := l.filter (fun x => decide (has S x.1))
open Classical in
noncomputable def keptP (S : List (Int × GO)) (L : List ((Int × GO) × Value)) : List ((Int × GO) × Value) := L.filter (fun p => decide (has S p.1.1))
theorem keptP_snoc {S : List (Int × GO)} {L : List ((Int × GO) × Value)} {j : Nat} {p : (Int × GO) × Value} (hp : L[j]? = some p) (hh : has S p.1.1) : keptP S (L.take (j + 1)) = keptP S (L.take j) ++ [p] := by
  unfold keptP
  rw [List.take_add_one, hp, List.filter_append]
  simp [hh]
theorem keptP_skip {S : List (Int × GO)} {L : List ((Int × GO) × Value)} {j : Nat} {p : (Int × GO) × Value} (hp : L[j]? = some p) (hh : ¬ has S p.1.1) : keptP S (L.take (j + 1)) = keptP S (L.take j) := by
  unfold keptP
  rw [List.take_add_one, hp, List.filter_append]
  simp [hh]
theorem keptP_all {S : List (Int × GO)} {L : List ((Int × GO) × Value)} (h : ∀ p ∈ L, has S p.1.1) : keptP S L = L := by
  unfold keptP
  exact List.filter_eq_self.2 (fun p hp => by simpa using h p hp)
theorem keptP_map (S : List (Int × GO)) : ∀ (l : List (Int × GO)) (sl : List Value), sl.length = l.length → (keptP S (l.zip sl)).map (·.1) = seenF S l
  | [], [], _ => rfl
  | [], u :: sl, h => by simp at h
  | x :: l, [], h => by simp at h
  | x :: l, u :: sl, h => by
    have ih := keptP_map S l sl (by simpa using h)
    unfold keptP seenF at ih ⊢
    rw [List.zip_cons_cons, List.filter_cons, List.filter_cons]
    by_cases hh : has S x.1 <;> simp [hh, ih]
theorem seenF_all {S l : List (Int × GO)} (h : ∀ x ∈ l, has S x.1) : seenF S l = l := by
  unfold seenF
  exact List.filter_eq_self.2 (fun p hp => by simpa using h p hp)
theorem zip_at {l : List (Int × GO)} {sl : List Value} {j : Nat} {x : Int × GO} {u : Value} (hx : l[j]? = some x) (hu : sl[j]? = some u) : (l.zip sl)[j]? = some (x, u) := by
  rw [List.getElem?_zip_eq_some]; exact ⟨hx, hu⟩
theorem zip_mem_take {l : List (Int × GO)} {sl : List Value} {i : Nat} {p : (Int × GO) × Value} (hp : p ∈ (l.zip sl).take i) : p.1 ∈ l.take i := by
  obtain ⟨n, hn⟩ := List.mem_iff_getElem?.1 hp
  rw [List.getElem?_take] at hn
  split at hn
  · rename_i h
    have h2 : (l.zip sl)[n]? = some (p.1, p.2) := hn
    rw [List.getElem?_zip_eq_some] at h2
    exact List.mem_of_getElem? (i := n) (by rw [List.getElem?_take, if_pos h]; exact h2.1)
  · cases hn
structure DelSt (S : List (Int × GO)) (l : List (Int × GO)) (sl : List Value) (base g k : Nat) (w W : World) (i j : Nat) (junk : List Value) : Prop where
  len : (keptP S ((l.zip sl).take j)).length = i
  lt : i < j
  le : j ≤ l.length
  jl : junk.length = (j - i) * 3
  row : W.ownsRow base 50 3 (.slice (some ⟨g, 0, none⟩) l.length k) l.length (nodeP (keptP S ((l.zip sl).take j)) ++ junk ++ nodeP ((l.zip sl).drop j))
  lnk : ∀ (q : Nat) (x : Int × GO) (u : Value), l[q]? = some x → sl[q]? = some u → W.ownsRow base 42 3 u x.2.links.length (cells3 x.2.links)
  fr : Below base w W
theorem DelSt.g_base {S l : List (Int × GO)} {sl : List Value} {base g k : Nat} {w W : World} {i j : Nat} {junk : List Value} (h : DelSt S l sl base g k w W i j junk) : base ≤ g := (h.row.lt g rfl).1
theorem DelSt.keep {S l : List (Int × GO)} {sl : List Value} {base g k : Nat} {w W W' : World} {i j : Nat} {p1 p2 p3 : Value} {junk : List Value} (h : DelSt S l sl base g k w W i j (p1 :: p2 :: p3 :: junk)) {x : Int × GO} {u : Value} (hz : (l.zip sl)[j]? = some (x, u)) (hj : j < l.length) (hh : has S x.1) (hb : Below W.heap.size W W') (hw : base ≤ W.heap.size) :
    DelSt S l sl base g k w (((W'.setCell ⟨g, i * 3, none⟩ (.int .i64 x.1)).setCell ⟨g, i * 3 + 1, none⟩ (.int .i64 x.2.kind)).setCell ⟨g, i * 3 + 2, none⟩ u) (i + 1) (j + 1) (junk ++ [.int .i64 x.1, .int .i64 x.2.kind, u]) := by
  have hdr : (l.zip sl).drop j = (x, u) :: (l.zip sl).drop (j + 1) := by
    obtain ⟨h1, h2⟩ := List.getElem?_eq_some_iff.1 hz
    rw [List.drop_eq_getElem_cons h1, h2]
  have hr0 := row_same h.row (SameOn.of_below (S := fun _ => True) hb) (fun _ _ => trivial)
  rw [hdr] at hr0
  obtain ⟨r1, g1⟩ := hr0.stored (i * 3) (.int .i64 x.1)
  obtain ⟨r2, g2⟩ := r1.stored (i * 3 + 1) (.int .i64 x.2.kind)
  obtain ⟨r3, g3⟩ := r2.stored (i * 3 + 2) u
  have hpre : (nodeP (keptP S ((l.zip sl).take j))).length = i * 3 := by rw [nodeP_len, h.len]
  have hjl := h.jl
  have hlt := h.lt
  simp only [List.length_cons] at hjl
  refine ⟨by rw [keptP_snoc hz hh, List.length_append, h.len]; rfl, by omega, by omega, by simp; omega, ?_, fun q y v hy hv => ?_, ?_⟩
  · have e : nodeP (keptP S ((l.zip sl).take (j + 1))) ++ (junk ++ [.int .i64 x.1, .int .i64 x.2.kind, u]) ++ nodeP ((l.zip sl).drop (j + 1)) =
        ((((nodeP (keptP S ((l.zip sl).take j)) ++ p1 :: p2 :: p3 :: junk ++ nodeP ((x, u) :: (l.zip sl).drop (j + 1))).set (i * 3) (.int .i64 x.1)).set (i * 3 + 1) (.int .i64 x.2.kind)).set (i * 3 + 2) u) := by
      rw [List.append_assoc (nodeP _) (p1 :: p2 :: p3 :: junk), List.cons_append, List.cons_append, List.cons_append, set3 _ _ _ _ _ _ _ _ hpre, keptP_snoc hz hh, nodeP_append]
      simp [nodeP]
    rw [e]
    exact r3
  · have q0 := row_same (h.lnk q y v hy hv) (SameOn.of_below (S := fun _ => True) hb) (fun _ _ => trivial)
    exact own_move q0 (fun b hb' => by
      have hne : some b ≠ some g := fun e => rows_apart q0 hr0 (by decide) hb' (by cases e; rfl)
      have hl0 := (q0.lt b hb').2
      exact (g3.block b (Nat.lt_of_lt_of_le hl0 (Nat.le_trans g1.size g2.size)) hne).trans ((g2.block b (Nat.lt_of_lt_of_le hl0 g1.size) hne).trans (g1.block b hl0 hne)))
  · have hg := h.g_base
    exact (((h.fr.trans (hb.mono hw)).setCell hg _).setCell hg _).setCell hg _
theorem DelSt.skip {S l : List (Int × GO)} {sl : List Value} {base g k : Nat} {w W W' : World} {i j : Nat} {junk : List Value} (h : DelSt S l sl base g k w W i j junk) {x : Int × GO} {u : Value} (hz : (l.zip sl)[j]? = some (x, u)) (hj : j < l.length) (hh : ¬ has S x.1) (hb : Below W.heap.size W W') (hw : base ≤ W.heap.size) :
    DelSt S l sl base g k w W' i (j + 1) (junk ++ [.int .i64 x.1, .int .i64 x.2.kind, u]) := by
  have hdr : (l.zip sl).drop j = (x, u) :: (l.zip sl).drop (j + 1) := by
    obtain ⟨h1, h2⟩ := List.getElem?_eq_some_iff.1 hz
    rw [List.drop_eq_getElem_cons h1, h2]
  have hr0 := row_same h.row (SameOn.of_below (S := fun _ => True) hb) (fun _ _ => trivial)
  rw [hdr] at hr0
  have hjl := h.jl
  have hlt := h.lt
  refine ⟨by rw [keptP_skip hz hh, h.len], by omega, by omega, by simp; omega, ?_, fun q y v hy hv => row_same (h.lnk q y v hy hv) (SameOn.of_below (S := fun _ => True) hb) (fun _ _ => trivial), h.fr.trans (hb.mono hw)⟩
  rw [keptP_skip hz hh]
  have e : nodeP (keptP S ((l.zip sl).take j)) ++ (junk ++ [.int .i64 x.1, .int .i64 x.2.kind, u]) ++ nodeP ((l.zip sl).drop (j + 1)) = nodeP (keptP S ((l.zip sl).take j)) ++ junk ++ nodeP ((x, u) :: (l.zip sl).drop (j + 1)) := by simp [nodeP]
  rw [e]
  exact hr0
theorem DelSt.done {S l : List (Int × GO)} {sl : List Value} {base g k : Nat} {w W : World} {i j : Nat} {junk : List Value} (h : DelSt S l sl base g k w W i j junk) (hj : j = l.length) (hsl : sl.length = l.length) (zs : List Value) :
    NodesAt (W.setCells g (i * 3) zs) base (.slice (some ⟨g, 0, none⟩) i k) (seenF S l) ∧ Below base w (W.setCells g (i * 3) zs) ∧ (seenF S l).length = i := by
  subst hj
  have hzl : (l.zip sl).length = l.length := by rw [List.length_zip]; omega
  have htk : (l.zip sl).take l.length = l.zip sl := List.take_of_length_le (by omega)
  have hlen := h.len
  have hrow := h.row
  have hlt := h.lt
  rw [htk] at hlen hrow
  have hp := own_prefix hrow i (by omega)
  rw [List.append_assoc, List.take_append_of_le_length (by rw [nodeP_len, hlen]; exact Nat.le_refl _), List.take_of_length_le (by rw [nodeP_len, hlen]; exact Nat.le_refl _)] at hp
  obtain ⟨r1, r2⟩ := own_setCells zs (i * 3) W hp (Nat.le_refl _)
  have hk := keptP_map S l sl hsl
  have hsn : (seenF S l).length = i := by rw [← hk, List.length_map, hlen]
  have hgb := h.g_base
  refine ⟨⟨(keptP S (l.zip sl)).map (·.2), by rw [List.length_map, hlen, hsn], ?_, fun q x u hx hu => ?_⟩, ?_, hsn⟩
  · rw [hsn, ← hk, ← nodeP_unzip]
    exact r1
  · rw [← hk, List.getElem?_map] at hx
    rw [List.getElem?_map] at hu
    obtain ⟨p, hp1, rfl⟩ := Option.map_eq_some_iff.1 hx
    rw [hp1] at hu
    cases hu
    have hpm : p ∈ l.zip sl := (List.mem_filter.1 (List.mem_of_getElem? hp1)).1
    obtain ⟨n, hn⟩ := List.mem_iff_getElem?.1 hpm
    have hn2 : (l.zip sl)[n]? = some (p.1, p.2) := hn
    rw [List.getElem?_zip_eq_some] at hn2
    have q0 := h.lnk n p.1 p.2 hn2.1 hn2.2
    exact own_move q0 (fun b hb' => r2.block b (q0.lt b hb').2 (fun e => rows_apart q0 hrow (by decide) hb' (by cases e; rfl)))
  · exact h.fr.grown r2 (by have := h.fr.size; exact Nat.le_of_lt (Nat.lt_of_le_of_lt hgb (hrow.lt g rfl).2)) (fun b hb' => by cases hb'; exact hgb)
theorem clear_nodes (W : World) (g i n m c : Nat) {base k : Nat} {xs : List Value} (hm : 0 < m) (hi : i + m = n) (hr : W.ownsRow base 50 3 (.slice (some ⟨g, 0, none⟩) n k) n xs) : ∀ ty,
    (Builtin.clear_ #[46] ty #[.slice (some ⟨g, i * 3, none⟩) m c]).run Tryz.prog W = .ok (.tuple #[]) (W.setCells g (i * 3) (Builtin.zeroCells #[Value.int .i64 0, .int .i64 0, .slice none 0 0] m).toList) := by
  intro ty
  have hz : (zeroValue 50).run Tryz.prog W = .ok (.agg #[.int .i64 0, .int .i64 0, .slice none 0 0]) W := Tryz.zeroValue50 W
  have hlen : (Builtin.zeroCells #[Value.int .i64 0, .int .i64 0, .slice none 0 0] m).toList.length = m * 3 := by rw [Array.length_toList, size_zeroCells]; rfl
  have hst := run_storeCells_cells (P := Tryz.prog) g (i * 3) (Builtin.zeroCells #[Value.int .i64 0, .int .i64 0, .slice none 0 0] m).toList 0 W (fun j hj => by
    have hlt : i * 3 + j < xs.length := by rw [hr.1]; omega
    have := hr.cells (g := g) rfl (i * 3 + j) _ (List.getElem?_eq_getElem hlt)
    rw [Addr.add_lit, Nat.zero_add] at this
    rw [Nat.add_zero, this]
    rfl) (fun j hj => hr.frozenAt _) (fun v hv => by
    simp only [Builtin.zeroCells, Array.toList_map, List.mem_map] at hv
    obtain ⟨q, -, rfl⟩ := hv
    have h3 : q % 3 = 0 ∨ q % 3 = 1 ∨ q % 3 = 2 := by omega
    show (#[Value.int .i64 0, .int .i64 0, .slice none 0 0][q % 3]!).oneCell' = true
    rcases h3 with h | h | h <;> rw [h] <;> rfl)
  obtain ⟨m', rfl⟩ : ∃ m', m = m' + 1 := ⟨m - 1, by omega⟩
  simp only [Nat.add_zero] at hst
  simp [Builtin.clear_, run_underlying Tryz.underlying46, hz, Value.cells, hst]
theorem cut_cap {P : Program} (t e : TypeId) (kh : IntKind) {i : TypeInfo} (ht : P.underlying t = some (.slice e)) (hi : P.info? e = some i) (A : Option Addr) (n c : Nat) (j : Int) (h0 : 0 ≤ j) (hm : j ≤ c) :
    ∀ W : World, (Instr.slice t (.slice A n c) none (some (.int kh j)) none).run P W = .ok (.slice A j.toNat c) W := by
  intro W
  have hel : P.elem t = e := by simp [Program.elem, ht]
  have hu : P.underlying t = some (.slice (P.elem t)) := by rw [hel]; exact ht
  have ha : (A.map fun x => x.add 0) = A := by cases A <;> simp [Addr.add]
  rw [run_slice_h W t A n c hu kh j h0 (by omega), hel]
  simp [sizeOf, typeInfo, hi, sliced, Result.andThen, ha]
set_option maxHeartbeats 16000000 in
set_option maxRecDepth 100000 in
theorem delete_gen (l : List (Int × GO)) (base : Nat) (A : Option Addr) (k : Nat) (w : World) (c sb : Nat) (S : List (Int × GO)) (hn : NodesAt w base (.slice A l.length k) l) (hc : w.cell? ⟨c, 0, none⟩ = some (.map (some sb))) (hS : SeenAt w sb S)
    (hcb : c < base) (hsb : sb < base) (hbw : base ≤ w.heap.size) (hwf : ∀ x ∈ l, (Lit.int .i64 x.1).wf = true) (hlen : l.length ≤ bound) :
    Calls Tryz.prog 61 #[.slice A l.length k, .func (.func 62) #[] #[.pointer (some ⟨c, 0, none⟩)]] w fun e w' => ∃ v, e = .returned v ∧ NodesAt w' base v (seenF S l) ∧ Below base w w' := by
  have HI := Aside0.mk (index_first l base A k w c sb S hn hc hS hwf hlen)
  have HN := Aside0.mk hn
  have HC := Aside0.mk hc
  have HS := Aside0.mk hS
  have HCB := Aside0.mk (And.intro hcb (And.intro hsb hbw))
  have HWF := Aside0.mk hwf
  have HLEN := Aside0.mk hlen
  clear hn hc hS hwf hlen hcb hsb hbw
  go_enter Tryz.func61, Tryz.ntmps61
  go_upto_region 2 with (go_at_call 85; refine HI.out.mono ?_; rintro e_ w3 ⟨r, rfl, hb3, hr⟩; have HB3 := Aside0.mk hb3; have HRR := Aside0.mk hr; clear hb3 hr)
  by_cases hr1 : r = -1
  · have HALL : Aside0 (∀ x ∈ l, has S x.1) := ⟨by
      rcases HRR.out with ⟨-, h⟩ | ⟨i, h, -⟩
      · exact h
      · omega⟩
    subst hr1
    go_wp2
    go_ret
    exact ⟨_, rfl, by rw [seenF_all HALL.out]; exact HN.out.below HB3.out, HB3.out.mono HCB.out.2.2⟩
  obtain ⟨i0, hi0, hil, hit, hin⟩ : ∃ i : Nat, r = (i : Int) ∧ i < l.length ∧ (∀ x ∈ l.take i, has S x.1) ∧ ∀ x, l[i]? = some x → ¬ has S x.1 := by
    rcases HRR.out with ⟨h, -⟩ | h
    · exact absurd h hr1
    · exact h
  have r1 : (r == -1) = false := by simpa using hr1
  have r2 : wrap64 (r + 1) = r + 1 := wrap_ok9 _ (by omega) (by have := HLEN.out; unfold bound at this; omega)
  obtain ⟨sl, n1, n2, n3⟩ := HN.out
  obtain ⟨g, rfl⟩ : ∃ g, A = some ⟨g, 0, none⟩ := by
    rcases n2.2 with ⟨-, h⟩ | ⟨g, cap, cur, h, -⟩
    · omega
    · exact ⟨g, by cases h; rfl⟩
  obtain ⟨x0, hx0⟩ : ∃ x, l[i0]? = some x := ⟨_, List.getElem?_eq_getElem hil⟩
  obtain ⟨u0, hu0⟩ : ∃ u, sl[i0]? = some u := ⟨_, List.getElem?_eq_getElem (by omega)⟩
  have hz0 := zip_at hx0 hu0
  have hk0 : keptP S ((l.zip sl).take (i0 + 1)) = (l.zip sl).take i0 := by
    rw [keptP_skip hz0 (hin x0 hx0), keptP_all (fun p hp => hit _ (zip_mem_take hp))]
  have hzl : (l.zip sl).length = l.length := by rw [List.length_zip]; omega
  have hD0 : DelSt S l sl base g k w w3 i0 (i0 + 1) [.int .i64 x0.1, .int .i64 x0.2.kind, u0] := by
    refine ⟨by rw [hk0, List.length_take]; omega, by omega, by omega, by simp, ?_, fun q x u hx hu => row_same (n3 q x u hx hu) (SameOn.of_below (S := fun _ => True) HB3.out) (fun _ _ => trivial), HB3.out.mono HCB.out.2.2⟩
    have e : nodeP (keptP S ((l.zip sl).take (i0 + 1))) ++ [.int .i64 x0.1, .int .i64 x0.2.kind, u0] ++ nodeP ((l.zip sl).drop (i0 + 1)) = nodeC l sl := by
      rw [hk0, nodeP_zip n1]
      conv => rhs; rw [← List.take_append_drop i0 (l.zip sl), nodeP_append, List.drop_eq_getElem_cons (by omega : i0 < (l.zip sl).length)]
      have e2 : (l.zip sl)[i0]'(by omega) = (x0, u0) := by
        obtain ⟨h1, h2⟩ := List.getElem?_eq_some_iff.1 hz0
        exact h2
      rw [e2]
      simp [nodeP]
    rw [e]
    exact row_same n2 (SameOn.of_below (S := fun _ => True) HB3.out) (fun _ _ => trivial)
  have HD0 := Aside0.mk hD0
  have HI0 := Aside0.mk hi0
  have HIL := Aside0.mk hil
  have HSL := Aside0.mk n1
  have HZL := Aside0.mk hzl
  clear hr1 hil hit hin n1 n2 n3 hx0 hu0 hz0 hk0 hzl hD0 hi0
  go_upto_region 5 with (fail)
  clear r1
  go_loopg [5, 6] l.length (fun kq v5 v6 W => ∃ (i j : Nat) (iv jv : Int) (junk : List Value), v5 = .int .i64 iv ∧ v6 = .int .i64 jv ∧ Aside0 (iv = (i : Int) ∧ jv = (j : Int) ∧ l.length - j ≤ kq) ∧ Aside0 (DelSt S l sl base g k w W i j junk))
  case atStart => exact ⟨i0, i0 + 1, r, r + 1, _, rfl, by first | rfl | rw [r2], ⟨HI0.out, by have := HI0.out; omega, by omega⟩, HD0⟩
  case round =>
    obtain ⟨i, j, iv, jv, junk, rfl, rfl, HIJ, HD⟩ := hrel
    clear r2
    by_cases hlt : j < l.length
    · obtain ⟨x, hx⟩ : ∃ x, l[j]? = some x := ⟨_, List.getElem?_eq_getElem hlt⟩
      obtain ⟨u, hu⟩ : ∃ u, sl[j]? = some u := ⟨_, List.getElem?_eq_getElem (by have := HSL.out; omega)⟩
      obtain ⟨Au, cu, rfl⟩ := own_sl3 (HD.out.lnk j x u hx hu)
      obtain ⟨u, hue⟩ : ∃ u, u = Value.slice Au x.2.links.length cu := ⟨_, rfl⟩
      rw [← hue] at hu
      have hz := zip_at hx hu
      have hdr : (l.zip sl).drop j = (x, u) :: (l.zip sl).drop (j + 1) := by
        obtain ⟨h1, h2⟩ := List.getElem?_eq_some_iff.1 hz
        rw [List.drop_eq_getElem_cons h1, h2]
      have hrow := HD.out.row
      rw [hdr] at hrow
      have hpl : (nodeP (keptP S ((l.zip sl).take j)) ++ junk).length = j * 3 := by
        rw [List.length_append, nodeP_len, HD.out.len, HD.out.jl]
        have := HD.out.lt
        omega
      have hat : ∀ (m : Nat) (v : Value), [Value.int .i64 x.1, .int .i64 x.2.kind, u][m]? = some v → wr.cell? ⟨g, j * 3 + m, none⟩ = some v := fun m v hv => by
        have h9 : (nodeP (keptP S ((l.zip sl).take j)) ++ junk ++ nodeP ((x, u) :: (l.zip sl).drop (j + 1)))[j * 3 + m]? = some v := by
          rw [List.getElem?_append_right (by omega), hpl, Nat.add_sub_cancel_left]
          show ([Value.int .i64 x.1, .int .i64 x.2.kind, u] ++ nodeP ((l.zip sl).drop (j + 1)))[m]? = some v
          rw [List.getElem?_append_left (List.getElem?_eq_some_iff.1 hv).1]
          exact hv
        have := hrow.cells (g := g) rfl _ _ h9
        rwa [Addr.add_lit, Nat.zero_add] at this
      have y1 : wr.cell? ⟨g, j * 3, none⟩ = some (.int .i64 x.1) := hat 0 _ rfl
      have y2 : wr.cell? ⟨g, j * 3 + 1, none⟩ = some (.int .i64 x.2.kind) := hat 1 _ rfl
      have y3 : wr.cell? ⟨g, j * 3 + 2, none⟩ = some u := hat 2 _ rfl
      obtain ⟨p1, p2, p3, junk', hjk⟩ : ∃ a b c d, junk = a :: b :: c :: d := by
        have h1 := HD.out.jl
        have h2 := HD.out.lt
        match junk, h1 with
        | [], h1 => simp at h1; omega
        | [a], h1 => simp at h1; omega
        | [a, b], h1 => simp at h1; omega
        | a :: b :: c :: d, _ => exact ⟨a, b, c, d, rfl⟩
      obtain ⟨W2, hW2⟩ : ∃ W2, W2 = wr.alloc (.cells #[.int .i64 x.1, .int .i64 x.2.kind, u] 50 (0, 0)) := ⟨_, rfl⟩
      rw [hue] at hW2
      have hb2 : Below wr.heap.size wr W2 := by rw [hW2]; exact below_alloc (Below.refl _ _) _
      have ho2 : W2.heap[wr.heap.size]? = some (.cells #[.int .i64 x.1, .int .i64 x.2.kind, u] 50 (0, 0)) := by rw [hW2, hue]; exact World.alloc_heap_new _ _
      obtain ⟨ob, hob⟩ : ∃ ob, ob = wr.heap.size := ⟨_, rfl⟩
      rw [← hob] at ho2
      have z1 : W2.cell? ⟨ob, 0, none⟩ = some (.int .i64 x.1) := (blk_cell ho2 0).trans rfl
      have z2 : W2.cell? ⟨ob, 1, none⟩ = some (.int .i64 x.2.kind) := (blk_cell ho2 1).trans rfl
      have z3 : W2.cell? ⟨ob, 2, none⟩ = some u := (blk_cell ho2 2).trans rfl
      have HCW : Aside0 (W2.cell? ⟨c, 0, none⟩ = some (.map (some sb))) := ⟨(hb2.cell (World.block_lt_of_cell? _ _ ((HD.out.fr.cell (p := ⟨c, 0, none⟩) HCB.out.1).trans HC.out))).trans ((HD.out.fr.cell (p := ⟨c, 0, none⟩) HCB.out.1).trans HC.out)⟩
      have HSW : Aside0 (SeenAt W2 sb S) := ⟨(HS.out.step (HD.out.fr.block sb HCB.out.2.1)).step (hb2.block sb ((HS.out.step (HD.out.fr.block sb HCB.out.2.1)).lt))⟩
      have HROW := Aside0.mk hrow
      have HB2 := Aside0.mk hb2
      have HO2 := Aside0.mk ho2
      have HW2 := Aside0.mk hW2
      have HOB := Aside0.mk hob
      have HLT := Aside0.mk hlt
      have HZ := Aside0.mk hz
      have HJK := Aside0.mk hjk
      have HDR := Aside0.mk hdr
      have HXM := Aside0.mk (List.mem_of_getElem? hx)
      have HJX := Aside0.mk hx
      have q1 : decide (jv < (l.length : Int)) = true := decide_eq_true (by have := HIJ.out; omega)
      have q2 : (jv < (l.length : Int)) = True := eq_true (by have := HIJ.out; omega)
      have q3 : ((0 : Int) ≤ jv) = True := eq_true (by have := HIJ.out; omega)
      have q4 : jv.toNat = j := by have := HIJ.out; omega
      have i2 : (iv < (l.length : Int)) = True := eq_true (by have := HIJ.out; have := HD.out.lt; omega)
      have i3 : ((0 : Int) ≤ iv) = True := eq_true (by have := HIJ.out; omega)
      have i4 : iv.toNat = i := by have := HIJ.out; omega
      have w1 : wrap64 (jv + 1) = jv + 1 := wrap_ok9 _ (by have := HIJ.out; omega) (by have := HIJ.out; have := HLEN.out; unfold bound at this; omega)
      have w2 : wrap64 (iv + 1) = iv + 1 := wrap_ok9 _ (by have := HIJ.out; omega) (by have := HIJ.out; have := HLEN.out; have := HD.out.lt; have := HD.out.le; unfold bound at *; omega)
      have HUE := Aside0.mk hue
      clear hx hu hlt hz hrow hpl hat hjk hb2 ho2 hW2 hob hdr
      rw [hue] at y3 z3
      clear hue
      rcases Classical.em (has S x.1) with hh | hh
      · have HH := Aside0.mk hh
        clear hh
        go_upto_region 8 with (fail)
        rw [← HW2.out, ← HOB.out]
        go_upto_region 9 with (go_at_call 62; refine (reach1_calls _ c sb S x.1 x.2.kind _ HCW.out HSW.out (HWF.out _ HXM.out) false ⟨fun h => (by cases h), fun h => absurd HH.out h⟩).mono ?_; rintro e_ w5 ⟨rfl, hb5⟩; have HB5 := Aside0.mk hb5; clear hb5)
        have hb35 : Below wr.heap.size wr w5 := HB2.out.trans (HB5.out.mono HB2.out.size)
        have hrow5 := row_same HROW.out (SameOn.of_below (S := fun _ => True) hb35) (fun _ _ => trivial)
        have hpre : (nodeP (keptP S ((l.zip sl).take j))).length = i * 3 := by rw [nodeP_len, HD.out.len]
        rw [HJK.out] at hrow5
        have hat5 : ∀ (m : Nat) (v : Value), [p1, p2, p3][m]? = some v → w5.cell? ⟨g, i * 3 + m, none⟩ = some v := fun m v hv => by
          have h9 : (nodeP (keptP S ((l.zip sl).take j)) ++ p1 :: p2 :: p3 :: junk' ++ nodeP ((x, u) :: (l.zip sl).drop (j + 1)))[i * 3 + m]? = some v := by
            have hm := (List.getElem?_eq_some_iff.1 hv).1
            rw [List.append_assoc, List.getElem?_append_right (by omega), hpre, Nat.add_sub_cancel_left]
            show ([p1, p2, p3] ++ (junk' ++ _))[m]? = some v
            rw [List.getElem?_append_left hm]
            exact hv
          have := hrow5.cells (g := g) rfl _ _ h9
          rwa [Addr.add_lit, Nat.zero_add] at this
        have d1 : w5.cell? ⟨g, i * 3, none⟩ = some p1 := hat5 0 _ rfl
        have d2 : w5.cell? ⟨g, i * 3 + 1, none⟩ = some p2 := hat5 1 _ rfl
        have d3 : w5.cell? ⟨g, i * 3 + 2, none⟩ = some p3 := hat5 2 _ rfl
        have f1 : w5.frozen? ⟨g, i * 3, none⟩ = false := hrow5.frozenAt _
        have f2 : w5.frozen? ⟨g, i * 3 + 1, none⟩ = false := hrow5.frozenAt _
        have f3 : w5.frozen? ⟨g, i * 3 + 2, none⟩ = false := hrow5.frozenAt _
        have o5 := (HB5.out.block ob (blk_lt HO2.out)).trans HO2.out
        have v1 : w5.cell? ⟨ob, 0, none⟩ = some (.int .i64 x.1) := (blk_cell o5 0).trans rfl
        have v2 : w5.cell? ⟨ob, 1, none⟩ = some (.int .i64 x.2.kind) := (blk_cell o5 1).trans rfl
        have v3 : w5.cell? ⟨ob, 2, none⟩ = some (.slice Au x.2.links.length cu) := by rw [← HUE.out]; exact (blk_cell o5 2).trans rfl
        have HROW5 := Aside0.mk hrow5
        have HB35 := Aside0.mk hb35
        have HPRE := Aside0.mk hpre
        clear hb35 hrow5 hpre hat5 o5 y1 y2 y3 z1 z2 z3
        have HKEEP : Aside0 (DelSt S l sl base g k w (((w5.setCell ⟨g, i * 3, none⟩ (.int .i64 x.1)).setCell ⟨g, i * 3 + 1, none⟩ (.int .i64 x.2.kind)).setCell ⟨g, i * 3 + 2, none⟩ (.slice Au x.2.links.length cu)) (i + 1) (j + 1) (junk' ++ [.int .i64 x.1, .int .i64 x.2.kind, u])) := ⟨by
          have h9 := HD.out
          rw [HJK.out] at h9
          rw [← HUE.out]
          exact h9.keep HZ.out HLT.out HH.out HB35.out (Nat.le_trans HCB.out.2.2 HD.out.fr.size)⟩
        go_wp2
        clear q4 i4
        go_roundg (gk - 1)
        case measure => have := HIJ.out; have := HLT.out; omega
        case rel => exact ⟨i + 1, j + 1, iv + 1, jv + 1, _, by first | rfl | rw [w2], by first | rfl | rw [w1], ⟨by have := HIJ.out; omega, by have := HIJ.out; omega, by have := HIJ.out; have := HLT.out; omega⟩, HKEEP⟩
      · have HH := Aside0.mk hh
        clear hh
        go_upto_region 8 with (fail)
        rw [← HW2.out, ← HOB.out]
        go_wp2_with (go_at_call 62; refine (reach1_calls _ c sb S x.1 x.2.kind _ HCW.out HSW.out (HWF.out _ HXM.out) true ⟨fun _ => HH.out, fun _ => rfl⟩).mono ?_; rintro e_ w5 ⟨rfl, hb5⟩; have HB5 := Aside0.mk hb5; clear hb5)
        clear q4 i4
        have HSKIP : Aside0 (DelSt S l sl base g k w w5 i (j + 1) (junk ++ [.int .i64 x.1, .int .i64 x.2.kind, u])) := ⟨HD.out.skip HZ.out HLT.out HH.out (HB2.out.trans (HB5.out.mono HB2.out.size)) (Nat.le_trans HCB.out.2.2 HD.out.fr.size)⟩
        go_roundg (gk - 1)
        case measure => have := HIJ.out; have := HLT.out; omega
        case rel => exact ⟨i, j + 1, iv, jv + 1, _, rfl, by first | rfl | rw [w1], ⟨by have := HIJ.out; omega, by have := HIJ.out; omega, by have := HIJ.out; have := HLT.out; omega⟩, HSKIP⟩
    · have hjl : j = l.length := by have := HD.out.le; omega
      have q1 : decide (jv < (l.length : Int)) = false := decide_eq_false (by have := HIJ.out; omega)
      have q2 : (jv < (l.length : Int)) = False := eq_false (by have := HIJ.out; omega)
      obtain ⟨t0, ht0, hz0, hz1, hz2⟩ := info_parts (P := Tryz.prog) (e := 50) (z := .agg #[.int .i64 0, .int .i64 0, .slice none 0 0]) (size := 3) (bytes := 40) (by kernel_rfl)
      have hnk : l.length ≤ k := row_cap HD.out.row
      have hil : i < l.length := by have := HD.out.lt; have := HD.out.le; omega
      have hto := cut_cap (P := Tryz.prog) 46 50 .i64 Tryz.underlying46 ht0 (some ⟨g, 0, none⟩) l.length k iv (by have := HIJ.out; omega) (by have := HIJ.out; omega)
      have hfrom := cut_from (P := Tryz.prog) 46 50 .i64 Tryz.underlying46 ht0 3 hz1 (some ⟨g, 0, none⟩) l.length k iv (by have := HIJ.out; omega) (by have := HIJ.out; omega)
      rw [show iv.toNat = i by have := HIJ.out; omega] at hto hfrom
      rw [if_neg (by omega)] at hfrom
      have hclear := clear_nodes wr g i l.length (l.length - i) (k - i) (by omega) (by omega) HD.out.row
      have HDN := Aside0.mk (HD.out.done hjl HSL.out (Builtin.zeroCells #[Value.int .i64 0, .int .i64 0, .slice none 0 0] (l.length - i)).toList)
      clear hlt ht0 hz0 hz1 hz2 hjl hil hnk
      go_wp2
      go_ret
      obtain ⟨d1, d2, d3⟩ := HDN.out
      exact ⟨_, rfl, d1, d2⟩
end
end Go.Proofs.YthifdofdoeaemaaGreatDoor.Wk
end
section
namespace Go.Proofs.YthifdofdoeaemaaGreatDoor.Wk
open Go.RowKit Go.Proofs.YthifdofdoeaemaaGreatDoorW.PrintWords Go.Proofs.YthifdofdoeaemaaGreatDoorW.PrintLast Go.Proofs.YthifdofdoeaemaaGreatDoorW.PrintMore
attribute [local go_sem] max2_int min2_int max_two min_two max_three min_three max_four min_four
set_option linter.unusedVariables false
set_option linter.unusedSimpArgs false
section
open Go.RowKit Go.Lib Go.Maps Go.Proofs.YthifdofdoeaemaaGreatDoorQ
attribute [local go_sem] Oper.semAt_some
theorem rch_objs {G H : GS} (e : G.objs = H.objs) {id : Int} (h : Rch G id) : Rch H id := by
  induction h with
  | root => exact .root
  | step _ ho hk h0 ih => exact .step ih (by rw [← e]; exact ho) hk h0
theorem seenF_rch {S : List (Int × GO)} {G : GS} (h : ∀ x, has S x ↔ Rch G x) : seenF S G.objs = rchL G.objs := by
  unfold seenF rchL
  refine List.filter_congr (fun x _ => ?_)
  rw [Bool.eq_iff_iff]
  simp only [decide_eq_true_eq]
  exact (h x.1).trans ⟨fun h' => rch_objs (G := G) (H := grL G.objs) rfl h', fun h' => rch_objs (G := grL G.objs) (H := G) rfl h'⟩
set_option maxHeartbeats 4000000 in
set_option maxRecDepth 100000 in
theorem reach_gen (B : GB) (G : GS) (w : World) (hG : GraphAt w B G) (hcl : Closed G) (h1 : has G.objs 1) (hb : G.objs.length ≤ 1000) (hlb : ∀ x ∈ G.objs, x.2.links.length ≤ bound) :
    Calls Tryz.prog 32 #[.pointer (some ⟨B.g, 0, none⟩)] w fun e w' => ∃ v, e = .returned v ∧ NodesAt w' w.heap.size v (rchL G.objs) ∧ Below w.heap.size w w' := by
  have HG := Aside0.mk hG
  have HCL := Aside0.mk hcl
  have H1 := Aside0.mk h1
  have HB := Aside0.mk hb
  have HLB := Aside0.mk hlb
  clear hG hcl h1 hb hlb
  go_enter Tryz.func32, Tryz.ntmps32
  go_upto_region 3 with (go_at_call 39; refine (good_calls B G _ HG.out).mono ?_; rintro e_ w0 ⟨rfl, h0⟩; obtain rfl := h0.symm)
  go_upto_region 4 with (go_at_call 52; refine (reached_calls B G _ HG.out HCL.out H1.out HB.out HLB.out).mono ?_; rintro e_ w1 ⟨sb, S, rfl, hsb, hse, -, hall, hb1⟩; have HSB := Aside0.mk hsb; have HSE := Aside0.mk hse; have HALL := Aside0.mk hall; have HB1 := Aside0.mk hb1; clear hsb hse hall hb1)
  obtain ⟨W2, hW2⟩ : ∃ W2, W2 = w1.alloc (.cells #[.map (some sb)] 100 (0, 0)) := ⟨_, rfl⟩
  have hb2 : Below w1.heap.size w1 W2 := by rw [hW2]; exact below_alloc (Below.refl _ _) _
  have hc2 : W2.cell? ⟨w1.heap.size, 0, none⟩ = some (.map (some sb)) := by rw [hW2]; exact (blk_cell (World.alloc_heap_new _ _) 0).trans rfl
  have hz2 : w1.heap.size < W2.heap.size := World.block_lt_of_cell? _ _ hc2
  have hb02 : Below w.heap.size w W2 := HB1.out.trans (hb2.mono HB1.out.size)
  rw [← hW2]
  have HB02 := Aside0.mk hb02
  have HC2 := Aside0.mk hc2
  have HZ2 := Aside0.mk hz2
  have HSE2 := Aside0.mk (HSE.out.step (hb2.block _ HSE.out.lt))
  clear hW2 hb2 hc2 hb02 hz2
  go_wp2_with (first
    | (go_at_call 23; refine (nodes_calls B G _ (HG.out.below HB02.out) (by have := HB.out; unfold bound; omega) HLB.out).mono ?_; rintro e_ w3 ⟨v3, rfl, hn3, hb3⟩; obtain ⟨sl3, hl3, hr3, hm3⟩ := hn3; obtain ⟨A3, k3, rfl⟩ := own_sl3 hr3; have HN3 := Aside0.mk (show NodesAt w3 W2.heap.size _ G.objs from ⟨sl3, hl3, hr3, hm3⟩); have HB3 := Aside0.mk hb3; clear hl3 hr3 hm3 hb3)
    | (go_at_call 61; refine (delete_gen G.objs W2.heap.size A3 k3 _ w1.heap.size sb S HN3.out ((HB3.out.cell (World.block_lt_of_cell? _ _ HC2.out)).trans HC2.out) (HSE2.out.step (HB3.out.block _ HSE2.out.lt)) HZ2.out HSE2.out.lt HB3.out.size HG.out.ids (by have := HB.out; unfold bound; omega)).mono ?_; rintro e_ w4 ⟨v4, rfl, hn4, hb4⟩; have HN4 := Aside0.mk hn4; have HB4 := Aside0.mk hb4; clear hn4 hb4))
  go_ret
  exact ⟨_, rfl, by have h9 := HN4.out.mono HB02.out.size; rw [seenF_rch HALL.out] at h9; exact h9, HB02.out.trans ((HB3.out.trans HB4.out).mono HB02.out.size)⟩
end
end Go.Proofs.YthifdofdoeaemaaGreatDoor.Wk
end
section
namespace Go.Proofs.YthifdofdoeaemaaGreatDoor.Wk
open Go.RowKit Go.Proofs.YthifdofdoeaemaaGreatDoorW.PrintWords Go.Proofs.YthifdofdoeaemaaGreatDoorW.PrintLast Go.Proofs.YthifdofdoeaemaaGreatDoorW.PrintMore
attribute [local go_sem] max2_int min2_int max_two min_two max_three min_three max_four min_four
set_option linter.unusedVariables false
set_option linter.unusedSimpArgs false
section
open Go.RowKit Go.Lib Go.Maps Go.Proofs.YthifdofdoeaemaaGreatDoorQ
attribute [local go_sem] Oper.semAt_some
def RLdAns (next : Int) (l : List (Int × GO)) (w : World) (e : Ending) (w' : World) : Prop :=
  (LoadP next l ∧ ∃ v, e = .returned (.tuple #[.pointer (some ⟨w.heap.size, 0, none⟩), .int .i64 0]) ∧ RefAt w' w.heap.size w.heap.size next v (ldG next l).objs ∧ Below w.heap.size w w') ∨
  (¬ LoadP next l ∧ e = .returned (.tuple #[.pointer none, .int .i64 5]) ∧ Below w.heap.size w w')
end
end Go.Proofs.YthifdofdoeaemaaGreatDoor.Wk
end
section
namespace Go.Proofs.YthifdofdoeaemaaGreatDoor.Wk
open Go.RowKit Go.Proofs.YthifdofdoeaemaaGreatDoorW.PrintWords Go.Proofs.YthifdofdoeaemaaGreatDoorW.PrintLast Go.Proofs.YthifdofdoeaemaaGreatDoorW.PrintMore
attribute [local go_sem] max2_int min2_int max_two min_two max_three min_three max_four min_four
set_option linter.unusedVariables false
set_option linter.unusedSimpArgs false
section
open Go.RowKit Go.Lib Go.Maps Go.Proofs.YthifdofdoeaemaaGreatDoorQ
attribute [local go_sem] Oper.semAt_some
theorem LkShape.below {w W : World} (h : Below w.heap.size w W) : LkShape w W := fun k cs hk => ⟨cs, (h.block k (blk_lt hk)).trans hk, rfl⟩
theorem RefAt.same {w W : World} {base g : Nat} {next : Int} {v : Value} {l : List (Int × GO)} {S : Nat → Prop} (h : RefAt w base g next v l) (hs : SameOn S w W) (hS : ∀ k, base ≤ k → S k) : RefAt W base g next v l := by
  obtain ⟨h1, h2, sl, n1, n2, n3⟩ := h
  exact ⟨h1, (hs.same g (hS g h1) (blk_lt h2)).trans h2, sl, n1, row_same n2 hs (fun k hk => hS k (n2.lt k hk).1), fun j x u hx hu => row_same (n3 j x u hx hu) hs (fun k hk => hS k ((n3 j x u hx hu).lt k hk).1)⟩
theorem LdAns.no {next : Int} {l : List (Int × GO)} {w w' : World} {e : Ending} (h : LdAns next l w e w') (hp : ¬ LoadP next l) : e = .returned (.tuple #[.pointer none, .int .i64 5]) ∧ Below w.heap.size w w' := h.elim (fun x => absurd x.1 hp) (fun x => x.2)
theorem RLdAns.no {next : Int} {l : List (Int × GO)} {w w' : World} {e : Ending} (h : RLdAns next l w e w') (hp : ¬ LoadP next l) : e = .returned (.tuple #[.pointer none, .int .i64 5]) ∧ Below w.heap.size w w' := h.elim (fun x => absurd x.1 hp) (fun x => x.2)
end
end Go.Proofs.YthifdofdoeaemaaGreatDoor.Wk
end
section
namespace Go.Proofs.YthifdofdoeaemaaGreatDoor.Wk
open Go.RowKit Go.Proofs.YthifdofdoeaemaaGreatDoorW.PrintWords Go.Proofs.YthifdofdoeaemaaGreatDoorW.PrintLast Go.Proofs.YthifdofdoeaemaaGreatDoorW.PrintMore
attribute [local go_sem] max2_int min2_int max_two min_two max_three min_three max_four min_four
set_option linter.unusedVariables false
set_option linter.unusedSimpArgs false
section
open Go.RowKit Go.Lib Go.Maps Go.Proofs.YthifdofdoeaemaaGreatDoorQ
attribute [local go_sem] Oper.semAt_some
def Both (w0 w : World) (g r : Nat) (F : Nat → Prop) (G : GS) : Prop := ∃ Fg Fr, Mine w0 w g Fg G ∧ MineR w0 w r Fr G.next G.objs ∧ (∀ k, Fg k → F k) ∧ (∀ k, Fr k → F k) ∧ (∀ k, Fg k → ¬ Fr k) ∧ ∀ k, F k → w0.heap.size ≤ k ∧ k < w.heap.size
def TurnB (w0 w : World) (g r : Nat) (F : Nat → Prop) (G : GS) (w' : World) : Prop := ∃ F', Both w0 w' g r F' G ∧ (∀ k, F k → F' k) ∧ (∀ k, F' k → F k ∨ w.heap.size ≤ k) ∧ SameOn (fun k => ¬ F k) w w'
theorem Both.step {w0 w w' : World} {g r : Nat} {F : Nat → Prop} {G : GS} (h : Both w0 w g r F G) (hb : Below w.heap.size w w') : Both w0 w' g r F G := by
  obtain ⟨Fg, Fr, h1, h2, h3, h4, h5, h6⟩ := h
  exact ⟨Fg, Fr, h1.step hb, h2.step hb, h3, h4, h5, fun k hk => ⟨(h6 k hk).1, Nat.lt_of_lt_of_le (h6 k hk).2 hb.size⟩⟩
theorem Both.same {w0 w w' : World} {g r : Nat} {F S : Nat → Prop} {G : GS} (h : Both w0 w g r F G) (hs : SameOn S w w') (hF : ∀ k, F k → S k) (h0 : ∀ k, k < w0.heap.size → S k) : Both w0 w' g r F G := by
  obtain ⟨Fg, Fr, h1, h2, h3, h4, h5, h6⟩ := h
  exact ⟨Fg, Fr, h1.same hs (fun k hk => hF k (h3 k hk)) h0, h2.same hs (fun k hk => hF k (h4 k hk)) h0, h3, h4, h5, fun k hk => ⟨(h6 k hk).1, Nat.lt_of_lt_of_le (h6 k hk).2 hs.size⟩⟩
theorem TurnB.from {w0 w w1 w' : World} {g r : Nat} {F : Nat → Prop} {G : GS} (h : TurnB w0 w1 g r F G w') (hb : Below w.heap.size w w1) : TurnB w0 w g r F G w' := by
  obtain ⟨F', h1, h2, h3, h4⟩ := h
  exact ⟨F', h1, h2, fun k hk => (h3 k hk).imp_right (fun a => Nat.le_trans hb.size a), (SameOn.of_below hb).trans h4⟩
theorem TurnB.to {w0 w w1 w' : World} {g r : Nat} {F : Nat → Prop} {G : GS} (h : TurnB w0 w g r F G w1) (hb : Below w1.heap.size w1 w') : TurnB w0 w g r F G w' := by
  obtain ⟨F', h1, h2, h3, h4⟩ := h
  exact ⟨F', h1.step hb, h2, h3, h4.trans (SameOn.of_below hb)⟩
theorem turnB_same {w0 w w' : World} {g r : Nat} {F : Nat → Prop} {G : GS} (h : Both w0 w g r F G) (hb : Below w.heap.size w w') : TurnB w0 w g r F G w' := ⟨F, h.step hb, fun _ hk => hk, fun _ hk => .inl hk, SameOn.of_below hb⟩
theorem mid_ref {w0 w w1 : World} {g r : Nat} {Fg Fr : Nat → Prop} {G : GS} {n : Int} {l : List (Int × GO)} (hg : Mine w0 w g Fg G) (hr : MineR w0 w r Fr n l) (hd : ∀ k, Fg k → ¬ Fr k) (hs : SameOn (fun k => ¬ Fg k) w w1) : MineR w0 w1 r Fr n l :=
  hr.same hs (fun k hk hf => hd k hf hk) (fun k hk hf => by have := (hg.lt hf).1; omega)
theorem mid_mine {w0 w w1 : World} {g r : Nat} {Fg Fr : Nat → Prop} {G : GS} {n : Int} {l : List (Int × GO)} (hg : Mine w0 w g Fg G) (hr : MineR w0 w r Fr n l) (hd : ∀ k, Fg k → ¬ Fr k) (hs : SameOn (fun k => ¬ Fr k) w w1) : Mine w0 w1 g Fg G :=
  hg.same hs (fun k hk hf => hd k hk hf) (fun k hk hf => by have := (hr.2.1 k hf).1; omega)
theorem turnB_gr {w0 w w1 w2 : World} {g r : Nat} {F Fg Fr Fg' : Nat → Prop} {G G2 : GS} (hg : Mine w0 w g Fg G) (hr : MineR w0 w r Fr G.next G.objs) (hd : ∀ k, Fg k → ¬ Fr k) (s1 : ∀ k, Fg k → F k) (s2 : ∀ k, Fr k → F k) (s3 : ∀ k, F k → w0.heap.size ≤ k ∧ k < w.heap.size)
    (h1 : Mine w0 w1 g Fg' G2) (h2 : ∀ k, Fg k → Fg' k) (h3 : ∀ k, Fg' k → Fg k ∨ w.heap.size ≤ k) (h4 : SameOn (fun k => ¬ Fg k) w w1) (h5 : TurnR w0 w1 r Fr G2.next G2.objs w2) : TurnB w0 w g r F G2 w2 := by
  obtain ⟨Fr', i1, i2, i3, i4⟩ := h5
  have hz := h4.size
  have hd1 : ∀ k, Fg' k → ¬ Fr k := fun k hk hf => by
    rcases h3 k hk with h | h
    · exact hd k h hf
    · have := (hr.2.1 k hf).2; omega
  have hr1 : MineR w0 w1 r Fr G.next G.objs := mid_ref hg hr hd h4
  refine ⟨fun k => F k ∨ Fg' k ∨ Fr' k, ⟨Fg', Fr', mid_mine h1 hr1 hd1 i4, i1, fun k hk => .inr (.inl hk), fun k hk => .inr (.inr hk), fun k hk hf => ?_, fun k hk => ?_⟩, fun k hk => .inl hk, fun k hk => ?_, ?_⟩
  · rcases i3 k hf with h | h
    · exact hd1 k hk h
    · have := (h1.lt hk).2; omega
  · rcases hk with hk | hk | hk
    · exact ⟨(s3 k hk).1, by have := (s3 k hk).2; have := i4.size; omega⟩
    · exact ⟨(h1.lt hk).1, by have := (h1.lt hk).2; have := i4.size; omega⟩
    · exact i1.2.1 k hk
  · rcases hk with hk | hk | hk
    · exact .inl hk
    · exact (h3 k hk).imp_left (s1 k)
    · rcases i3 k hk with h | h
      · exact .inl (s2 k h)
      · exact .inr (by omega)
  · exact (h4.mono (fun k hk hf => hk (s1 k hf))).trans (i4.mono (fun k hk hf => hk (s2 k hf)))
def ActAt (W : World) (pb : Nat) (k : Int) (a b : ByteArray) (id : Int) : Prop := W.heap[pb]? = some (.cells #[.int .i64 k, .string a, .string b, .int .i64 id] 69 (0, 0))
theorem ActAt.cells {W : World} {pb : Nat} {k : Int} {a b : ByteArray} {id : Int} (h : ActAt W pb k a b id) : W.cell? ⟨pb, 0, none⟩ = some (.int .i64 k) ∧ W.cell? ⟨pb, 1, none⟩ = some (.string a) ∧ W.cell? ⟨pb, 2, none⟩ = some (.string b) ∧ W.cell? ⟨pb, 3, none⟩ = some (.int .i64 id) :=
  ⟨(blk_cell h 0).trans rfl, (blk_cell h 1).trans rfl, (blk_cell h 2).trans rfl, (blk_cell h 3).trans rfl⟩
theorem ActAt.same {W W' : World} {S : Nat → Prop} {pb : Nat} {k : Int} {a b : ByteArray} {id : Int} (h : ActAt W pb k a b id) (hs : SameOn S W W') (hS : S pb) : ActAt W' pb k a b id := (hs.same pb hS (blk_lt h)).trans h
theorem ActAt.below {W W' : World} {pb : Nat} {k : Int} {a b : ByteArray} {id : Int} (h : ActAt W pb k a b id) (hb : Below W.heap.size W W') : ActAt W' pb k a b id := (hb.block pb (blk_lt h)).trans h
end
end Go.Proofs.YthifdofdoeaemaaGreatDoor.Wk
end
section
namespace Go.Proofs.YthifdofdoeaemaaGreatDoor.Wk
open Go.RowKit Go.Proofs.YthifdofdoeaemaaGreatDoorW.PrintWords Go.Proofs.YthifdofdoeaemaaGreatDoorW.PrintLast Go.Proofs.YthifdofdoeaemaaGreatDoorW.PrintMore
attribute [local go_sem] max2_int min2_int max_two min_two max_three min_three max_four min_four
set_option linter.unusedVariables false
set_option linter.unusedSimpArgs false
section
open Go.RowKit Go.Lib Go.Maps Go.Proofs.YthifdofdoeaemaaGreatDoorQ
attribute [local go_sem] Oper.semAt_some
end
end Go.Proofs.YthifdofdoeaemaaGreatDoor.Wk
end
section
namespace Go.Proofs.YthifdofdoeaemaaGreatDoor.Wk
open Go.RowKit Go.Proofs.YthifdofdoeaemaaGreatDoorW.PrintWords Go.Proofs.YthifdofdoeaemaaGreatDoorW.PrintLast Go.Proofs.YthifdofdoeaemaaGreatDoorW.PrintMore
attribute [local go_sem] max2_int min2_int max_two min_two max_three min_three max_four min_four
set_option linter.unusedVariables false
set_option linter.unusedSimpArgs false
section
open Go.RowKit Go.Lib Go.Maps Go.Proofs.YthifdofdoeaemaaGreatDoorQ
attribute [local go_sem] Oper.semAt_some
theorem hold_keys {G G2 : GS} {id e : Int} (h : holdG G id = some (e, G2)) : ∀ y ∈ G2.objs, ∃ z ∈ G.objs, y.1 = z.1 := by
  unfold holdG at h
  split at h
  · cases h; exact fun y hy => ⟨y, hy, rfl⟩
  · split at h
    · cases h
      intro y hy
      obtain ⟨z, hz, e⟩ := key_setO (show y ∈ setO G.objs id (fun o => { o with held := o.held + 1 }) from hy)
      exact ⟨z, hz, e⟩
    · cases h
theorem hold_mine {w0 w : World} {g : Nat} {F : Nat → Prop} {G : GS} (h : Mine w0 w g F G) (id : Int) (hw : (Lit.int .i64 id).wf = true) {e : Int} {G2 : GS} (hf : holdG G id = some (e, G2)) :
    Calls Tryz.prog 25 #[.pointer (some ⟨g, 0, none⟩), .int .i64 id] w fun ev w' => ev = .returned (.int .i64 e) ∧ Mine w0 w' g F G2 ∧ SameOn (fun k => ¬ F k) w w' := by
  obtain ⟨B, rfl, h2, h3, h4, h5⟩ := h
  refine (hold_calls B G id w h2 hw e G2 hf).mono ?_
  rintro ev w' ⟨rfl, hg, hs⟩
  exact ⟨rfl, mine_turn h2 h3 h4 h5 hg hs (hold_keys hf)⟩
theorem kind_mine {w0 w : World} {g : Nat} {F : Nat → Prop} {G : GS} (h : Mine w0 w g F G) (id : Int) (hw : (Lit.int .i64 id).wf = true) {k e : Int} (hf : kindG G id = (k, e)) :
    Calls Tryz.prog 26 #[.pointer (some ⟨g, 0, none⟩), .int .i64 id] w fun ev w' => ev = .returned (.tuple #[.int .i64 k, .int .i64 e]) ∧ w' = w := by
  obtain ⟨B, rfl, h2, -⟩ := h
  have := kind_calls B G id w h2 hw
  rw [hf] at this
  exact this
theorem free_mine {w0 w : World} {g : Nat} {F : Nat → Prop} {G : GS} (h : Mine w0 w g F G) (n : Nat) (id : Int) (hw : (Lit.int .i64 id).wf = true) {r : List Int} {e : Int} {G2 : GS} (hf : freeG n G id = some (r, e, G2)) :
    Calls Tryz.prog 27 #[.pointer (some ⟨g, 0, none⟩), .int .i64 id] w fun ev w' => ∃ v, ev = .returned (.tuple #[v, .int .i64 e]) ∧ w'.ownsRow w.heap.size 3 1 v r.length (r.map (.int .i64)) ∧ Mine w0 w' g F G2 ∧ SameOn (fun k => ¬ F k) w w' := by
  obtain ⟨B, rfl, h2, h3, h4, h5⟩ := h
  refine (free_calls n B G id w h2 hw r e G2 hf).mono ?_
  rintro ev w' ⟨v, rfl, hr, hg, hk, hs⟩
  exact ⟨v, rfl, hr, mine_turn h2 h3 h4 h5 hg hs hk⟩
end
end Go.Proofs.YthifdofdoeaemaaGreatDoor.Wk
end
section
namespace Go.Proofs.YthifdofdoeaemaaGreatDoor.Wk
open Go.RowKit Go.Proofs.YthifdofdoeaemaaGreatDoorW.PrintWords Go.Proofs.YthifdofdoeaemaaGreatDoorW.PrintLast Go.Proofs.YthifdofdoeaemaaGreatDoorW.PrintMore
attribute [local go_sem] max2_int min2_int max_two min_two max_three min_three max_four min_four
set_option linter.unusedVariables false
set_option linter.unusedSimpArgs false
section
open Go.RowKit Go.Lib Go.Maps Go.Proofs.YthifdofdoeaemaaGreatDoorQ
attribute [local go_sem] Oper.semAt_some
theorem unlink_len {n : Nat} {G G2 : GS} {p : ByteArray} {r : List Int} {e : Int} (h : unlinkG n G p = some (r, e, G2)) : r.length ≤ bound := by
  unfold unlinkG at h
  split at h
  · cases h
  · split at h
    · split at h
      · cases h
      · split at h
        · split at h
          · cases h
          · split at h
            · cases h
              rw [sortI_len]
              assumption
            · cases h
        · cases h
          exact Nat.zero_le _
    · cases h
      exact Nat.zero_le _
theorem free_len {n : Nat} {G G2 : GS} {id : Int} {r : List Int} {e : Int} (h : freeG n G id = some (r, e, G2)) : r.length ≤ bound := by
  unfold freeG at h
  split at h
  · cases h
    exact Nat.zero_le _
  · split at h
    · cases h
      exact Nat.zero_le _
    · split at h
      · split at h
        · cases h
        · split at h
          · cases h
            rw [sortI_len]
            assumption
          · cases h
      · cases h
theorem next_small {mm : Nat} {G : GS} (h : Live mm G) (hm : mm ≤ 1000) : G.next < 1000000000 := by have := h.next; omega
set_option maxHeartbeats 16000000 in
set_option maxRecDepth 100000 in
theorem acted_add0 {mm : Nat} (w0 w : World) (g r : Nat) (F : Nat → Prop) (G : GS) (hB : Both w0 w g r F G) (hl : Lay w0) (hL : Live mm G) (hm : mm ≤ 1000) (k : Int) (a b : ByteArray) (id : Int) (hid : (Lit.int .i64 id).wf = true) (hk : k = 0) :
    Calls Tryz.prog 37 #[.pointer (some ⟨g, 0, none⟩), .pointer (some ⟨r, 0, none⟩), .agg #[.int .i64 k, .string a, .string b, .int .i64 id]] w fun ev w' => ev = .returned (.bool true) ∧ ∃ G2, Live (mm + 1) G2 ∧ TurnB w0 w g r F G2 w' := by
  obtain ⟨W1, hW1⟩ : ∃ W1, W1 = w.alloc (.cells #[.int .i64 k, .string a, .string b, .int .i64 id] 69 (0, 0)) := ⟨_, rfl⟩
  have hb1 : Below w.heap.size w W1 := by rw [hW1]; exact below_alloc (Below.refl _ _) _
  have HBI := Aside0.mk hB
  have HB1W := Aside0.mk (hB.step hb1)
  obtain ⟨Fg, Fr, hMg, hMr, s1, s2, hd, s3⟩ := hB
  obtain ⟨pb, hpb⟩ : ∃ pb, pb = w.heap.size := ⟨_, rfl⟩
  have HACT : Aside0 (ActAt W1 pb k a b id) := ⟨by rw [hW1, hpb]; exact World.alloc_heap_new _ _⟩
  have HPG : Aside0 (¬ Fg pb) := ⟨fun h => by have := (hMg.lt h).2; omega⟩
  have HPR : Aside0 (¬ Fr pb) := ⟨fun h => by have := (hMr.2.1 _ h).2; omega⟩
  have HMG := Aside0.mk (hMg.step hb1)
  have HMR := Aside0.mk (hMr.step hb1)
  have HS1 := Aside0.mk s1
  have HS2 := Aside0.mk s2
  have HD := Aside0.mk hd
  have HS3 : Aside0 (∀ k, F k → w0.heap.size ≤ k ∧ k < W1.heap.size) := ⟨fun k hk => ⟨(s3 k hk).1, by have := (s3 k hk).2; have := hb1.size; omega⟩⟩
  have HB1 := Aside0.mk hb1
  have HW1 := Aside0.mk hW1
  have HPB := Aside0.mk hpb
  have HL := Aside0.mk hl
  have HLV := Aside0.mk hL
  have HOK := Aside0.mk hL.ok
  have HM := Aside0.mk hm
  have HID := Aside0.mk hid
  obtain ⟨z0, z1, z2, z3⟩ := HACT.out.cells
  clear hW1 hb1 hMg hMr s1 s2 hd s3 hpb hl hL hm hid
  have e0 : (k == 0) = true := by simp [hk]
  obtain ⟨aid, ae, G2, hadd, hlive⟩ := live_add HLV.out (by have := HM.out; omega) a 1
  have HADD := Aside0.mk hadd
  have HLIVE := Aside0.mk hlive
  clear hadd hlive
  have w9 : wrap64 ((0 : Int) + 1) = 1 := by unfold wrap64; omega
  have w8 : wrap64 (1 : Int) = 1 := by unfold wrap64; omega
  subst hk
  go_enter Tryz.func37, Tryz.ntmps37
  go_upto_region 1 with (fail)
  rw [← HW1.out, ← HPB.out]
  go_upto_region 9 with (go_at_call 16; refine (add_mine HMG.out HL.out a 1 HADD.out).mono ?_; rintro e_ w2 ⟨rfl, Fg', hm2, u1, u2, u3⟩; have HM2 := Aside0.mk hm2; have HU1 := Aside0.mk u1; have HU2 := Aside0.mk u2; have HU3 := Aside0.mk u3; clear hm2 u1 u2 u3)
  obtain ⟨y0, y1, y2, y3⟩ := (HACT.out.same HU3.out HPG.out).cells
  have HMR2 := Aside0.mk (mid_ref HMG.out HMR.out HD.out HU3.out)
  clear z0 z1 z2 z3
  go_wp2_with (go_at_call 64; refine (refAdd_calls w0 w2 r Fr G HMR2.out HOK.out (next_small HLV.out HM.out) a 1 _ _ _ HADD.out).mono ?_; rintro e_ w3 ⟨rfl, hT⟩; have HT := Aside0.mk hT; clear hT)
  go_ret
  exact ⟨rfl, G2, HLIVE.out, (turnB_gr HMG.out HMR.out HD.out HS1.out HS2.out HS3.out HM2.out HU1.out HU2.out HU3.out HT.out).from HB1.out⟩
set_option maxHeartbeats 16000000 in
set_option maxRecDepth 100000 in
theorem acted_add1 {mm : Nat} (w0 w : World) (g r : Nat) (F : Nat → Prop) (G : GS) (hB : Both w0 w g r F G) (hl : Lay w0) (hL : Live mm G) (hm : mm ≤ 1000) (k : Int) (a b : ByteArray) (id : Int) (hid : (Lit.int .i64 id).wf = true) (hk : k = 1) :
    Calls Tryz.prog 37 #[.pointer (some ⟨g, 0, none⟩), .pointer (some ⟨r, 0, none⟩), .agg #[.int .i64 k, .string a, .string b, .int .i64 id]] w fun ev w' => ev = .returned (.bool true) ∧ ∃ G2, Live (mm + 1) G2 ∧ TurnB w0 w g r F G2 w' := by
  obtain ⟨W1, hW1⟩ : ∃ W1, W1 = w.alloc (.cells #[.int .i64 k, .string a, .string b, .int .i64 id] 69 (0, 0)) := ⟨_, rfl⟩
  have hb1 : Below w.heap.size w W1 := by rw [hW1]; exact below_alloc (Below.refl _ _) _
  have HBI := Aside0.mk hB
  have HB1W := Aside0.mk (hB.step hb1)
  obtain ⟨Fg, Fr, hMg, hMr, s1, s2, hd, s3⟩ := hB
  obtain ⟨pb, hpb⟩ : ∃ pb, pb = w.heap.size := ⟨_, rfl⟩
  have HACT : Aside0 (ActAt W1 pb k a b id) := ⟨by rw [hW1, hpb]; exact World.alloc_heap_new _ _⟩
  have HPG : Aside0 (¬ Fg pb) := ⟨fun h => by have := (hMg.lt h).2; omega⟩
  have HPR : Aside0 (¬ Fr pb) := ⟨fun h => by have := (hMr.2.1 _ h).2; omega⟩
  have HMG := Aside0.mk (hMg.step hb1)
  have HMR := Aside0.mk (hMr.step hb1)
  have HS1 := Aside0.mk s1
  have HS2 := Aside0.mk s2
  have HD := Aside0.mk hd
  have HS3 : Aside0 (∀ k, F k → w0.heap.size ≤ k ∧ k < W1.heap.size) := ⟨fun k hk => ⟨(s3 k hk).1, by have := (s3 k hk).2; have := hb1.size; omega⟩⟩
  have HB1 := Aside0.mk hb1
  have HW1 := Aside0.mk hW1
  have HPB := Aside0.mk hpb
  have HL := Aside0.mk hl
  have HLV := Aside0.mk hL
  have HOK := Aside0.mk hL.ok
  have HM := Aside0.mk hm
  have HID := Aside0.mk hid
  obtain ⟨z0, z1, z2, z3⟩ := HACT.out.cells
  clear hW1 hb1 hMg hMr s1 s2 hd s3 hpb hl hL hm hid
  have e0 : (k == 0) = false := by simp [hk]
  have e1 : (k == 1) = true := by simp [hk]
  obtain ⟨aid, ae, G2, hadd, hlive⟩ := live_add HLV.out (by have := HM.out; omega) a 2
  have HADD := Aside0.mk hadd
  have HLIVE := Aside0.mk hlive
  clear hadd hlive
  have w9 : wrap64 ((1 : Int) + 1) = 2 := by unfold wrap64; omega
  have w8 : wrap64 (2 : Int) = 2 := by unfold wrap64; omega
  subst hk
  go_enter Tryz.func37, Tryz.ntmps37
  go_upto_region 1 with (fail)
  rw [← HW1.out, ← HPB.out]
  go_upto_region 9 with (go_at_call 16; refine (add_mine HMG.out HL.out a 2 HADD.out).mono ?_; rintro e_ w2 ⟨rfl, Fg', hm2, u1, u2, u3⟩; have HM2 := Aside0.mk hm2; have HU1 := Aside0.mk u1; have HU2 := Aside0.mk u2; have HU3 := Aside0.mk u3; clear hm2 u1 u2 u3)
  obtain ⟨y0, y1, y2, y3⟩ := (HACT.out.same HU3.out HPG.out).cells
  have HMR2 := Aside0.mk (mid_ref HMG.out HMR.out HD.out HU3.out)
  clear z0 z1 z2 z3
  go_wp2_with (go_at_call 64; refine (refAdd_calls w0 w2 r Fr G HMR2.out HOK.out (next_small HLV.out HM.out) a 2 _ _ _ HADD.out).mono ?_; rintro e_ w3 ⟨rfl, hT⟩; have HT := Aside0.mk hT; clear hT)
  go_ret
  exact ⟨rfl, G2, HLIVE.out, (turnB_gr HMG.out HMR.out HD.out HS1.out HS2.out HS3.out HM2.out HU1.out HU2.out HU3.out HT.out).from HB1.out⟩
set_option maxHeartbeats 16000000 in
set_option maxRecDepth 100000 in
theorem acted_add11 {mm : Nat} (w0 w : World) (g r : Nat) (F : Nat → Prop) (G : GS) (hB : Both w0 w g r F G) (hl : Lay w0) (hL : Live mm G) (hm : mm ≤ 1000) (k : Int) (a b : ByteArray) (id : Int) (hid : (Lit.int .i64 id).wf = true) (hk : k = 11) :
    Calls Tryz.prog 37 #[.pointer (some ⟨g, 0, none⟩), .pointer (some ⟨r, 0, none⟩), .agg #[.int .i64 k, .string a, .string b, .int .i64 id]] w fun ev w' => ev = .returned (.bool true) ∧ ∃ G2, Live (mm + 1) G2 ∧ TurnB w0 w g r F G2 w' := by
  obtain ⟨W1, hW1⟩ : ∃ W1, W1 = w.alloc (.cells #[.int .i64 k, .string a, .string b, .int .i64 id] 69 (0, 0)) := ⟨_, rfl⟩
  have hb1 : Below w.heap.size w W1 := by rw [hW1]; exact below_alloc (Below.refl _ _) _
  have HBI := Aside0.mk hB
  have HB1W := Aside0.mk (hB.step hb1)
  obtain ⟨Fg, Fr, hMg, hMr, s1, s2, hd, s3⟩ := hB
  obtain ⟨pb, hpb⟩ : ∃ pb, pb = w.heap.size := ⟨_, rfl⟩
  have HACT : Aside0 (ActAt W1 pb k a b id) := ⟨by rw [hW1, hpb]; exact World.alloc_heap_new _ _⟩
  have HPG : Aside0 (¬ Fg pb) := ⟨fun h => by have := (hMg.lt h).2; omega⟩
  have HPR : Aside0 (¬ Fr pb) := ⟨fun h => by have := (hMr.2.1 _ h).2; omega⟩
  have HMG := Aside0.mk (hMg.step hb1)
  have HMR := Aside0.mk (hMr.step hb1)
  have HS1 := Aside0.mk s1
  have HS2 := Aside0.mk s2
  have HD := Aside0.mk hd
  have HS3 : Aside0 (∀ k, F k → w0.heap.size ≤ k ∧ k < W1.heap.size) := ⟨fun k hk => ⟨(s3 k hk).1, by have := (s3 k hk).2; have := hb1.size; omega⟩⟩
  have HB1 := Aside0.mk hb1
  have HW1 := Aside0.mk hW1
  have HPB := Aside0.mk hpb
  have HL := Aside0.mk hl
  have HLV := Aside0.mk hL
  have HOK := Aside0.mk hL.ok
  have HM := Aside0.mk hm
  have HID := Aside0.mk hid
  obtain ⟨z0, z1, z2, z3⟩ := HACT.out.cells
  clear hW1 hb1 hMg hMr s1 s2 hd s3 hpb hl hL hm hid
  have e0 : (k == 0) = false := by simp [hk]
  have e1 : (k == 1) = false := by simp [hk]
  have e2 : (k == 11) = true := by simp [hk]
  obtain ⟨aid, ae, G2, hadd, hlive⟩ := live_add HLV.out (by have := HM.out; omega) a id
  have HADD := Aside0.mk hadd
  have HLIVE := Aside0.mk hlive
  clear hadd hlive
  have w9 : wrap64 ((11 : Int) + 1) = 12 := by unfold wrap64; omega
  have w8 : wrap64 (12 : Int) = 12 := by unfold wrap64; omega
  subst hk
  go_enter Tryz.func37, Tryz.ntmps37
  go_upto_region 1 with (fail)
  rw [← HW1.out, ← HPB.out]
  go_upto_region 9 with (go_at_call 16; refine (add_mine HMG.out HL.out a id HADD.out).mono ?_; rintro e_ w2 ⟨rfl, Fg', hm2, u1, u2, u3⟩; have HM2 := Aside0.mk hm2; have HU1 := Aside0.mk u1; have HU2 := Aside0.mk u2; have HU3 := Aside0.mk u3; clear hm2 u1 u2 u3)
  obtain ⟨y0, y1, y2, y3⟩ := (HACT.out.same HU3.out HPG.out).cells
  have HMR2 := Aside0.mk (mid_ref HMG.out HMR.out HD.out HU3.out)
  clear z0 z1 z2 z3
  go_wp2_with (go_at_call 64; refine (refAdd_calls w0 w2 r Fr G HMR2.out HOK.out (next_small HLV.out HM.out) a id _ _ _ HADD.out).mono ?_; rintro e_ w3 ⟨rfl, hT⟩; have HT := Aside0.mk hT; clear hT)
  go_ret
  exact ⟨rfl, G2, HLIVE.out, (turnB_gr HMG.out HMR.out HD.out HS1.out HS2.out HS3.out HM2.out HU1.out HU2.out HU3.out HT.out).from HB1.out⟩
set_option maxHeartbeats 16000000 in
set_option maxRecDepth 100000 in
theorem acted_link {mm : Nat} (w0 w : World) (g r : Nat) (F : Nat → Prop) (G : GS) (hB : Both w0 w g r F G) (hl : Lay w0) (hL : Live mm G) (hm : mm ≤ 1000) (k : Int) (a b : ByteArray) (id : Int) (hid : (Lit.int .i64 id).wf = true) (hk : k = 2) :
    Calls Tryz.prog 37 #[.pointer (some ⟨g, 0, none⟩), .pointer (some ⟨r, 0, none⟩), .agg #[.int .i64 k, .string a, .string b, .int .i64 id]] w fun ev w' => ev = .returned (.bool true) ∧ ∃ G2, Live (mm + 1) G2 ∧ TurnB w0 w g r F G2 w' := by
  obtain ⟨W1, hW1⟩ : ∃ W1, W1 = w.alloc (.cells #[.int .i64 k, .string a, .string b, .int .i64 id] 69 (0, 0)) := ⟨_, rfl⟩
  have hb1 : Below w.heap.size w W1 := by rw [hW1]; exact below_alloc (Below.refl _ _) _
  have HBI := Aside0.mk hB
  have HB1W := Aside0.mk (hB.step hb1)
  obtain ⟨Fg, Fr, hMg, hMr, s1, s2, hd, s3⟩ := hB
  obtain ⟨pb, hpb⟩ : ∃ pb, pb = w.heap.size := ⟨_, rfl⟩
  have HACT : Aside0 (ActAt W1 pb k a b id) := ⟨by rw [hW1, hpb]; exact World.alloc_heap_new _ _⟩
  have HPG : Aside0 (¬ Fg pb) := ⟨fun h => by have := (hMg.lt h).2; omega⟩
  have HPR : Aside0 (¬ Fr pb) := ⟨fun h => by have := (hMr.2.1 _ h).2; omega⟩
  have HMG := Aside0.mk (hMg.step hb1)
  have HMR := Aside0.mk (hMr.step hb1)
  have HS1 := Aside0.mk s1
  have HS2 := Aside0.mk s2
  have HD := Aside0.mk hd
  have HS3 : Aside0 (∀ k, F k → w0.heap.size ≤ k ∧ k < W1.heap.size) := ⟨fun k hk => ⟨(s3 k hk).1, by have := (s3 k hk).2; have := hb1.size; omega⟩⟩
  have HB1 := Aside0.mk hb1
  have HW1 := Aside0.mk hW1
  have HPB := Aside0.mk hpb
  have HL := Aside0.mk hl
  have HLV := Aside0.mk hL
  have HOK := Aside0.mk hL.ok
  have HM := Aside0.mk hm
  have HID := Aside0.mk hid
  obtain ⟨z0, z1, z2, z3⟩ := HACT.out.cells
  clear hW1 hb1 hMg hMr s1 s2 hd s3 hpb hl hL hm hid
  have e0 : (k == 0) = false := by simp [hk]
  have e1 : (k == 1) = false := by simp [hk]
  have e2 : (k == 11) = false := by simp [hk]
  have e3 : (k == 2) = true := by simp [hk]
  obtain ⟨ae, G2, hop, hlive⟩ := live_link HLV.out a b
  have HOP := Aside0.mk hop
  have HLIVE := Aside0.mk hlive
  clear hop hlive
  subst hk
  go_enter Tryz.func37, Tryz.ntmps37
  go_upto_region 1 with (fail)
  rw [← HW1.out, ← HPB.out]
  go_upto_region 12 with (fail)
  have HMGD := Aside0.mk (HMG.out.step (below_drew (Below.refl _ _)))
  have HMRD := Aside0.mk (HMR.out.step (below_drew (Below.refl _ _)))
  have HACTD := Aside0.mk (HACT.out.below (below_drew (Below.refl _ _)))
  refine start_ (n := 14) (S := fun w' => w'.cell? ⟨pb, 1, none⟩ = some (.string a) ∧ w'.cell? ⟨pb, 2, none⟩ = some (.string b)) (ds := []) #[false, false, false, false, false, false, false, false, false, false, false, false, false, false] (by kernel_rfl) rfl rfl ⟨z1, z2⟩ (fun hHeld => ?_)
  refine pure_ (i := 0) (N := some 72) (v := ?_) (a' := ?_) (bb 14 1) rfl rfl (by kernel_rfl) (fun _ _ _ h => h) (Or.inl ⟨by rfl, ?_⟩) ?_ ?_
  rotate_left
  · intro w'
    go_simp
    with_reducible rfl
  rotate_left
  · simp only [Act.put, sa, sz, ss, i64_w, i32_w]
    rfl
  refine pure_ (i := 1) (N := some 73) (v := ?_) (a' := ?_) (bb 14 3) rfl rfl (by kernel_rfl) (fun _ _ _ h => h) (Or.inl ⟨by rfl, ?_⟩) ?_ ?_
  rotate_left
  · intro w'
    go_simp
    with_reducible rfl
  rotate_left
  · simp only [Act.put, sa, sz, ss, i64_w, i32_w]
    rfl
  refine pure_ (i := 3) (N := some 75) (v := ?_) (a' := ?_) (bb 14 11) rfl rfl (by kernel_rfl) (fun _ _ _ h => h) (Or.inl ⟨by rfl, ?_⟩) ?_ ?_
  rotate_left
  · intro w'
    go_simp
    with_reducible rfl
  rotate_left
  · simp only [Act.put, sa, sz, ss, i64_w, i32_w]
    rfl
  refine pure_ (i := 6) (N := some 78) (v := ?_) (a' := ?_) (bb 14 75) rfl rfl (by kernel_rfl) (fun _ _ _ h => h) (Or.inl ⟨by rfl, ?_⟩) ?_ ?_
  rotate_left
  · intro w'
    go_simp
    with_reducible rfl
  rotate_left
  · simp only [Act.put, sa, sz, ss, i64_w, i32_w]
    rfl
  refine pure_ (i := 7) (N := some 79) (v := ?_) (a' := ?_) (bb 14 203) rfl rfl (by kernel_rfl) (fun _ _ _ h => h) (Or.inl ⟨by rfl, ?_⟩) ?_ ?_
  rotate_left
  · intro w'
    go_simp
    with_reducible rfl
  rotate_left
  · simp only [Act.put, sa, sz, ss, i64_w, i32_w]
    rfl
  refine pure_ (i := 9) (N := some 81) (v := ?_) (a' := ?_) (bb 14 715) rfl rfl (by kernel_rfl) (fun _ _ _ h => h) (Or.inl ⟨by rfl, ?_⟩) ?_ ?_
  rotate_left
  · intro w'
    go_simp
    with_reducible rfl
  rotate_left
  · simp only [Act.put, sa, sz, ss, i64_w, i32_w]
    rfl
  refine take_ (i := 2) (N := some 74) (v := ?_) (a' := ?_) (bb 14 719) rfl rfl (by kernel_rfl) (fun _ _ _ h => h) (Or.inl ⟨by rfl, ?_⟩) hHeld ?_ ?_
  rotate_left
  · rintro w' ⟨s0, s1⟩
    go_simp
    with_reducible rfl
  rotate_left
  · simp only [Act.put, sa, sz, ss, i64_w, i32_w]
    rfl
  refine take_ (i := 4) (N := some 76) (v := ?_) (a' := ?_) (bb 14 735) rfl rfl (by kernel_rfl) (fun _ _ _ h => h) (Or.inl ⟨by rfl, ?_⟩) hHeld ?_ ?_
  rotate_left
  · rintro w' ⟨s0, s1⟩
    go_simp
    with_reducible rfl
  rotate_left
  · simp only [Act.put, sa, sz, ss, i64_w, i32_w]
    rfl
  refine take_ (i := 8) (N := some 80) (v := ?_) (a' := ?_) (bb 14 991) rfl rfl (by kernel_rfl) (fun _ _ _ h => h) (Or.inl ⟨by rfl, ?_⟩) hHeld ?_ ?_
  rotate_left
  · rintro w' ⟨s0, s1⟩
    go_simp
    with_reducible rfl
  rotate_left
  · simp only [Act.put, sa, sz, ss, i64_w, i32_w]
    rfl
  refine take_ (i := 10) (N := some 82) (v := ?_) (a' := ?_) (bb 14 2015) rfl rfl (by kernel_rfl) (fun _ _ _ h => h) (Or.inl ⟨by rfl, ?_⟩) hHeld ?_ ?_
  rotate_left
  · rintro w' ⟨s0, s1⟩
    go_simp
    with_reducible rfl
  rotate_left
  · simp only [Act.put, sa, sz, ss, i64_w, i32_w]
    rfl
  refine one_ (i := 5) (N := some 77) (bb 14 2047) rfl rfl (by kernel_rfl) (by decide) (fun K hK => ?_)
  refine goes_ Tryz.func22 (by kernel_rfl) rfl #[.pointer (some ⟨g, 0, none⟩), .string a, .string b] (by rfl) rfl rfl (by simp only [List.map_toArray, List.map_cons, List.map_nil]; rfl) ?_
  with_reducible refine (link_mine HMGD.out HL.out a b HOP.out).mono ?_
  rintro e_ w2 ⟨rfl, hm2, u3⟩
  refine ⟨_, rfl, ?_⟩
  have hact2 := HACTD.out.same u3 HPG.out
  have HACT2 := Aside0.mk hact2
  have HM2 := Aside0.mk hm2
  have HU3 := Aside0.mk u3
  have HMR2 := Aside0.mk (mid_ref HMGD.out HMRD.out HD.out u3)
  refine hK.out _ _ ⟨(hact2.cells).2.1, (hact2.cells).2.2.1⟩ (fun hHeld => ?_)
  clear hK K
  refine norm_ (a' := ?_) ?_ ?_
  rotate_left
  · show Act.put _ (some 77) _ = _
    simp only [Act.put, sa, sz, ss, i64_w, i32_w]
    rfl
  refine one_ (i := 11) (N := some 83) (bb 14 4095) rfl rfl (by kernel_rfl) (by decide) (fun K hK => ?_)
  refine goes_ Tryz.func65 (by kernel_rfl) rfl #[.pointer (some ⟨r, 0, none⟩), .string a, .string b] (by rfl) rfl rfl (by simp only [List.map_toArray, List.map_cons, List.map_nil]; rfl) ?_
  with_reducible refine (refLinkAdd_calls w0 w2 r Fr G HMR2.out HOK.out a b _ _ HOP.out).mono ?_
  rintro e_ w3 ⟨rfl, hT⟩
  refine ⟨_, rfl, ?_⟩
  have HT := Aside0.mk hT
  have hact3 : ActAt w3 pb 2 a b id := by
    obtain ⟨_, _, _, _, hs⟩ := hT
    exact HACT2.out.same hs HPR.out
  refine hK.out _ _ ⟨(hact3.cells).2.1, (hact3.cells).2.2.1⟩ (fun hHeld => ?_)
  clear hK K
  refine norm_ (a' := ?_) ?_ ?_
  rotate_left
  · show Act.put _ (some 83) _ = _
    simp only [Act.put, sa, sz, ss, i64_w, i32_w]
    rfl
  refine pure_ (i := 12) (N := some 84) (v := ?_) (a' := ?_) (bb 14 8191) rfl rfl (by kernel_rfl) (fun _ _ _ h => h) (Or.inl ⟨by rfl, ?_⟩) ?_ ?_
  rotate_left
  · intro w'
    go_simp
    with_reducible rfl
  rotate_left
  · simp only [Act.put, sa, sz, ss, i64_w, i32_w]
    rfl
  refine pure_ (i := 13) (N := some 6) (v := ?_) (a' := ?_) (bb 14 16383) rfl rfl (by kernel_rfl) (fun _ _ _ h => h) (Or.inl ⟨by rfl, ?_⟩) ?_ ?_
  rotate_left
  · intro w'
    go_simp
    with_reducible rfl
  rotate_left
  · simp only [Act.put, sa, sz, ss, i64_w, i32_w]
    rfl
  refine done_ (by kernel_rfl) ?_
  clear z0 z1 z2 z3
  go_wp2
  go_ret
  exact ⟨rfl, G2, HLIVE.out.mono (Nat.le_succ _), ((turnB_gr HMGD.out HMRD.out HD.out HS1.out HS2.out HS3.out HM2.out (fun _ h => h) (fun _ h => .inl h) HU3.out HT.out).from (below_drew (Below.refl _ _))).from HB1.out⟩
set_option maxHeartbeats 16000000 in
set_option maxRecDepth 100000 in
theorem acted_soft {mm : Nat} (w0 w : World) (g r : Nat) (F : Nat → Prop) (G : GS) (hB : Both w0 w g r F G) (hl : Lay w0) (hL : Live mm G) (hm : mm ≤ 1000) (k : Int) (a b : ByteArray) (id : Int) (hid : (Lit.int .i64 id).wf = true) (hk : k = 3) :
    Calls Tryz.prog 37 #[.pointer (some ⟨g, 0, none⟩), .pointer (some ⟨r, 0, none⟩), .agg #[.int .i64 k, .string a, .string b, .int .i64 id]] w fun ev w' => ev = .returned (.bool true) ∧ ∃ G2, Live (mm + 1) G2 ∧ TurnB w0 w g r F G2 w' := by
  obtain ⟨W1, hW1⟩ : ∃ W1, W1 = w.alloc (.cells #[.int .i64 k, .string a, .string b, .int .i64 id] 69 (0, 0)) := ⟨_, rfl⟩
  have hb1 : Below w.heap.size w W1 := by rw [hW1]; exact below_alloc (Below.refl _ _) _
  have HBI := Aside0.mk hB
  have HB1W := Aside0.mk (hB.step hb1)
  obtain ⟨Fg, Fr, hMg, hMr, s1, s2, hd, s3⟩ := hB
  obtain ⟨pb, hpb⟩ : ∃ pb, pb = w.heap.size := ⟨_, rfl⟩
  have HACT : Aside0 (ActAt W1 pb k a b id) := ⟨by rw [hW1, hpb]; exact World.alloc_heap_new _ _⟩
  have HPG : Aside0 (¬ Fg pb) := ⟨fun h => by have := (hMg.lt h).2; omega⟩
  have HPR : Aside0 (¬ Fr pb) := ⟨fun h => by have := (hMr.2.1 _ h).2; omega⟩
  have HMG := Aside0.mk (hMg.step hb1)
  have HMR := Aside0.mk (hMr.step hb1)
  have HS1 := Aside0.mk s1
  have HS2 := Aside0.mk s2
  have HD := Aside0.mk hd
  have HS3 : Aside0 (∀ k, F k → w0.heap.size ≤ k ∧ k < W1.heap.size) := ⟨fun k hk => ⟨(s3 k hk).1, by have := (s3 k hk).2; have := hb1.size; omega⟩⟩
  have HB1 := Aside0.mk hb1
  have HW1 := Aside0.mk hW1
  have HPB := Aside0.mk hpb
  have HL := Aside0.mk hl
  have HLV := Aside0.mk hL
  have HOK := Aside0.mk hL.ok
  have HM := Aside0.mk hm
  have HID := Aside0.mk hid
  obtain ⟨z0, z1, z2, z3⟩ := HACT.out.cells
  clear hW1 hb1 hMg hMr s1 s2 hd s3 hpb hl hL hm hid
  have e0 : (k == 0) = false := by simp [hk]
  have e1 : (k == 1) = false := by simp [hk]
  have e2 : (k == 11) = false := by simp [hk]
  have e3 : (k == 2) = false := by simp [hk]
  have e4 : (k == 3) = true := by simp [hk]
  obtain ⟨ae, G2, hop, hlive⟩ := live_soft HLV.out a b
  have HOP := Aside0.mk hop
  have HLIVE := Aside0.mk hlive
  clear hop hlive
  subst hk
  go_enter Tryz.func37, Tryz.ntmps37
  go_upto_region 1 with (fail)
  rw [← HW1.out, ← HPB.out]
  go_upto_region 14 with (fail)
  have HMGD := Aside0.mk (HMG.out.step (below_drew (Below.refl _ _)))
  have HMRD := Aside0.mk (HMR.out.step (below_drew (Below.refl _ _)))
  have HACTD := Aside0.mk (HACT.out.below (below_drew (Below.refl _ _)))
  refine start_ (n := 14) (S := fun w' => w'.cell? ⟨pb, 1, none⟩ = some (.string a) ∧ w'.cell? ⟨pb, 2, none⟩ = some (.string b)) (ds := []) #[false, false, false, false, false, false, false, false, false, false, false, false, false, false] (by kernel_rfl) rfl rfl ⟨z1, z2⟩ (fun hHeld => ?_)
  refine pure_ (i := 0) (N := some 87) (v := ?_) (a' := ?_) (bb 14 1) rfl rfl (by kernel_rfl) (fun _ _ _ h => h) (Or.inl ⟨by rfl, ?_⟩) ?_ ?_
  rotate_left
  · intro w'
    go_simp
    with_reducible rfl
  rotate_left
  · simp only [Act.put, sa, sz, ss, i64_w, i32_w]
    rfl
  refine pure_ (i := 1) (N := some 88) (v := ?_) (a' := ?_) (bb 14 3) rfl rfl (by kernel_rfl) (fun _ _ _ h => h) (Or.inl ⟨by rfl, ?_⟩) ?_ ?_
  rotate_left
  · intro w'
    go_simp
    with_reducible rfl
  rotate_left
  · simp only [Act.put, sa, sz, ss, i64_w, i32_w]
    rfl
  refine pure_ (i := 3) (N := some 90) (v := ?_) (a' := ?_) (bb 14 11) rfl rfl (by kernel_rfl) (fun _ _ _ h => h) (Or.inl ⟨by rfl, ?_⟩) ?_ ?_
  rotate_left
  · intro w'
    go_simp
    with_reducible rfl
  rotate_left
  · simp only [Act.put, sa, sz, ss, i64_w, i32_w]
    rfl
  refine pure_ (i := 6) (N := some 93) (v := ?_) (a' := ?_) (bb 14 75) rfl rfl (by kernel_rfl) (fun _ _ _ h => h) (Or.inl ⟨by rfl, ?_⟩) ?_ ?_
  rotate_left
  · intro w'
    go_simp
    with_reducible rfl
  rotate_left
  · simp only [Act.put, sa, sz, ss, i64_w, i32_w]
    rfl
  refine pure_ (i := 7) (N := some 94) (v := ?_) (a' := ?_) (bb 14 203) rfl rfl (by kernel_rfl) (fun _ _ _ h => h) (Or.inl ⟨by rfl, ?_⟩) ?_ ?_
  rotate_left
  · intro w'
    go_simp
    with_reducible rfl
  rotate_left
  · simp only [Act.put, sa, sz, ss, i64_w, i32_w]
    rfl
  refine pure_ (i := 9) (N := some 96) (v := ?_) (a' := ?_) (bb 14 715) rfl rfl (by kernel_rfl) (fun _ _ _ h => h) (Or.inl ⟨by rfl, ?_⟩) ?_ ?_
  rotate_left
  · intro w'
    go_simp
    with_reducible rfl
  rotate_left
  · simp only [Act.put, sa, sz, ss, i64_w, i32_w]
    rfl
  refine take_ (i := 2) (N := some 89) (v := ?_) (a' := ?_) (bb 14 719) rfl rfl (by kernel_rfl) (fun _ _ _ h => h) (Or.inl ⟨by rfl, ?_⟩) hHeld ?_ ?_
  rotate_left
  · rintro w' ⟨s0, s1⟩
    go_simp
    with_reducible rfl
  rotate_left
  · simp only [Act.put, sa, sz, ss, i64_w, i32_w]
    rfl
  refine take_ (i := 4) (N := some 91) (v := ?_) (a' := ?_) (bb 14 735) rfl rfl (by kernel_rfl) (fun _ _ _ h => h) (Or.inl ⟨by rfl, ?_⟩) hHeld ?_ ?_
  rotate_left
  · rintro w' ⟨s0, s1⟩
    go_simp
    with_reducible rfl
  rotate_left
  · simp only [Act.put, sa, sz, ss, i64_w, i32_w]
    rfl
  refine take_ (i := 8) (N := some 95) (v := ?_) (a' := ?_) (bb 14 991) rfl rfl (by kernel_rfl) (fun _ _ _ h => h) (Or.inl ⟨by rfl, ?_⟩) hHeld ?_ ?_
  rotate_left
  · rintro w' ⟨s0, s1⟩
    go_simp
    with_reducible rfl
  rotate_left
  · simp only [Act.put, sa, sz, ss, i64_w, i32_w]
    rfl
  refine take_ (i := 10) (N := some 97) (v := ?_) (a' := ?_) (bb 14 2015) rfl rfl (by kernel_rfl) (fun _ _ _ h => h) (Or.inl ⟨by rfl, ?_⟩) hHeld ?_ ?_
  rotate_left
  · rintro w' ⟨s0, s1⟩
    go_simp
    with_reducible rfl
  rotate_left
  · simp only [Act.put, sa, sz, ss, i64_w, i32_w]
    rfl
  refine one_ (i := 5) (N := some 92) (bb 14 2047) rfl rfl (by kernel_rfl) (by decide) (fun K hK => ?_)
  refine goes_ Tryz.func15 (by kernel_rfl) rfl #[.pointer (some ⟨g, 0, none⟩), .string a, .string b] (by rfl) rfl rfl (by simp only [List.map_toArray, List.map_cons, List.map_nil]; rfl) ?_
  with_reducible refine (soft_mine HMGD.out HL.out a b HOP.out).mono ?_
  rintro e_ w2 ⟨rfl, hm2, u3⟩
  refine ⟨_, rfl, ?_⟩
  have hact2 := HACTD.out.same u3 HPG.out
  have HACT2 := Aside0.mk hact2
  have HM2 := Aside0.mk hm2
  have HU3 := Aside0.mk u3
  have HMR2 := Aside0.mk (mid_ref HMGD.out HMRD.out HD.out u3)
  refine hK.out _ _ ⟨(hact2.cells).2.1, (hact2.cells).2.2.1⟩ (fun hHeld => ?_)
  clear hK K
  refine norm_ (a' := ?_) ?_ ?_
  rotate_left
  · show Act.put _ (some 92) _ = _
    simp only [Act.put, sa, sz, ss, i64_w, i32_w]
    rfl
  refine one_ (i := 11) (N := some 98) (bb 14 4095) rfl rfl (by kernel_rfl) (by decide) (fun K hK => ?_)
  refine goes_ Tryz.func66 (by kernel_rfl) rfl #[.pointer (some ⟨r, 0, none⟩), .string a, .string b] (by rfl) rfl rfl (by simp only [List.map_toArray, List.map_cons, List.map_nil]; rfl) ?_
  with_reducible refine (refSoft_calls w0 w2 r Fr G HMR2.out HOK.out a b _ _ HOP.out).mono ?_
  rintro e_ w3 ⟨rfl, hT⟩
  refine ⟨_, rfl, ?_⟩
  have HT := Aside0.mk hT
  have hact3 : ActAt w3 pb 3 a b id := by
    obtain ⟨_, _, _, _, hs⟩ := hT
    exact HACT2.out.same hs HPR.out
  refine hK.out _ _ ⟨(hact3.cells).2.1, (hact3.cells).2.2.1⟩ (fun hHeld => ?_)
  clear hK K
  refine norm_ (a' := ?_) ?_ ?_
  rotate_left
  · show Act.put _ (some 98) _ = _
    simp only [Act.put, sa, sz, ss, i64_w, i32_w]
    rfl
  refine pure_ (i := 12) (N := some 99) (v := ?_) (a' := ?_) (bb 14 8191) rfl rfl (by kernel_rfl) (fun _ _ _ h => h) (Or.inl ⟨by rfl, ?_⟩) ?_ ?_
  rotate_left
  · intro w'
    go_simp
    with_reducible rfl
  rotate_left
  · simp only [Act.put, sa, sz, ss, i64_w, i32_w]
    rfl
  refine pure_ (i := 13) (N := some 6) (v := ?_) (a' := ?_) (bb 14 16383) rfl rfl (by kernel_rfl) (fun _ _ _ h => h) (Or.inl ⟨by rfl, ?_⟩) ?_ ?_
  rotate_left
  · intro w'
    go_simp
    with_reducible rfl
  rotate_left
  · simp only [Act.put, sa, sz, ss, i64_w, i32_w]
    rfl
  refine done_ (by kernel_rfl) ?_
  clear z0 z1 z2 z3
  go_wp2
  go_ret
  exact ⟨rfl, G2, HLIVE.out.mono (Nat.le_succ _), ((turnB_gr HMGD.out HMRD.out HD.out HS1.out HS2.out HS3.out HM2.out (fun _ h => h) (fun _ h => .inl h) HU3.out HT.out).from (below_drew (Below.refl _ _))).from HB1.out⟩
set_option maxHeartbeats 16000000 in
set_option maxRecDepth 100000 in
theorem acted_hold {mm : Nat} (w0 w : World) (g r : Nat) (F : Nat → Prop) (G : GS) (hB : Both w0 w g r F G) (hl : Lay w0) (hL : Live mm G) (hm : mm ≤ 1000) (k : Int) (a b : ByteArray) (id : Int) (hid : (Lit.int .i64 id).wf = true) (hk : k = 7) :
    Calls Tryz.prog 37 #[.pointer (some ⟨g, 0, none⟩), .pointer (some ⟨r, 0, none⟩), .agg #[.int .i64 k, .string a, .string b, .int .i64 id]] w fun ev w' => ev = .returned (.bool true) ∧ ∃ G2, Live (mm + 1) G2 ∧ TurnB w0 w g r F G2 w' := by
  obtain ⟨W1, hW1⟩ : ∃ W1, W1 = w.alloc (.cells #[.int .i64 k, .string a, .string b, .int .i64 id] 69 (0, 0)) := ⟨_, rfl⟩
  have hb1 : Below w.heap.size w W1 := by rw [hW1]; exact below_alloc (Below.refl _ _) _
  have HBI := Aside0.mk hB
  have HB1W := Aside0.mk (hB.step hb1)
  obtain ⟨Fg, Fr, hMg, hMr, s1, s2, hd, s3⟩ := hB
  obtain ⟨pb, hpb⟩ : ∃ pb, pb = w.heap.size := ⟨_, rfl⟩
  have HACT : Aside0 (ActAt W1 pb k a b id) := ⟨by rw [hW1, hpb]; exact World.alloc_heap_new _ _⟩
  have HPG : Aside0 (¬ Fg pb) := ⟨fun h => by have := (hMg.lt h).2; omega⟩
  have HPR : Aside0 (¬ Fr pb) := ⟨fun h => by have := (hMr.2.1 _ h).2; omega⟩
  have HMG := Aside0.mk (hMg.step hb1)
  have HMR := Aside0.mk (hMr.step hb1)
  have HS1 := Aside0.mk s1
  have HS2 := Aside0.mk s2
  have HD := Aside0.mk hd
  have HS3 : Aside0 (∀ k, F k → w0.heap.size ≤ k ∧ k < W1.heap.size) := ⟨fun k hk => ⟨(s3 k hk).1, by have := (s3 k hk).2; have := hb1.size; omega⟩⟩
  have HB1 := Aside0.mk hb1
  have HW1 := Aside0.mk hW1
  have HPB := Aside0.mk hpb
  have HL := Aside0.mk hl
  have HLV := Aside0.mk hL
  have HOK := Aside0.mk hL.ok
  have HM := Aside0.mk hm
  have HID := Aside0.mk hid
  obtain ⟨z0, z1, z2, z3⟩ := HACT.out.cells
  clear hW1 hb1 hMg hMr s1 s2 hd s3 hpb hl hL hm hid
  have e0 : (k == 0) = false := by simp [hk]
  have e1 : (k == 1) = false := by simp [hk]
  have e2 : (k == 11) = false := by simp [hk]
  have e3 : (k == 2) = false := by simp [hk]
  have e4 : (k == 3) = false := by simp [hk]
  have e5 : (k == 4) = false := by simp [hk]
  have e6 : (k == 5) = false := by simp [hk]
  have e7 : (k == 6) = false := by simp [hk]
  have e8 : (k == 7) = true := by simp [hk]
  obtain ⟨ae, G2, hop, hlive, -⟩ := live_hold HLV.out (by have := HM.out; omega) id
  have HOP := Aside0.mk hop
  have HLIVE := Aside0.mk hlive
  clear hop hlive
  subst hk
  go_enter Tryz.func37, Tryz.ntmps37
  go_upto_region 1 with (fail)
  rw [← HW1.out, ← HPB.out]
  go_upto_region 30 with (fail)
  have HMGD := Aside0.mk (HMG.out.step (below_drew (Below.refl _ _)))
  have HMRD := Aside0.mk (HMR.out.step (below_drew (Below.refl _ _)))
  have HACTD := Aside0.mk (HACT.out.below (below_drew (Below.refl _ _)))
  refine start_ (n := 10) (S := fun w' => w'.cell? ⟨pb, 3, none⟩ = some (.int .i64 id)) (ds := []) #[false, false, false, false, false, false, false, false, false, false] (by kernel_rfl) rfl rfl (z3) (fun hHeld => ?_)
  refine pure_ (i := 0) (N := some 198) (v := ?_) (a' := ?_) (bb 10 1) rfl rfl (by kernel_rfl) (fun _ _ _ h => h) (Or.inl ⟨by rfl, ?_⟩) ?_ ?_
  rotate_left
  · intro w'
    go_simp
    with_reducible rfl
  rotate_left
  · simp only [Act.put, sa, sz, ss, i64_w, i32_w]
    rfl
  refine pure_ (i := 1) (N := some 199) (v := ?_) (a' := ?_) (bb 10 3) rfl rfl (by kernel_rfl) (fun _ _ _ h => h) (Or.inl ⟨by rfl, ?_⟩) ?_ ?_
  rotate_left
  · intro w'
    go_simp
    with_reducible rfl
  rotate_left
  · simp only [Act.put, sa, sz, ss, i64_w, i32_w]
    rfl
  refine pure_ (i := 4) (N := some 202) (v := ?_) (a' := ?_) (bb 10 19) rfl rfl (by kernel_rfl) (fun _ _ _ h => h) (Or.inl ⟨by rfl, ?_⟩) ?_ ?_
  rotate_left
  · intro w'
    go_simp
    with_reducible rfl
  rotate_left
  · simp only [Act.put, sa, sz, ss, i64_w, i32_w]
    rfl
  refine pure_ (i := 5) (N := some 203) (v := ?_) (a' := ?_) (bb 10 51) rfl rfl (by kernel_rfl) (fun _ _ _ h => h) (Or.inl ⟨by rfl, ?_⟩) ?_ ?_
  rotate_left
  · intro w'
    go_simp
    with_reducible rfl
  rotate_left
  · simp only [Act.put, sa, sz, ss, i64_w, i32_w]
    rfl
  refine take_ (i := 2) (N := some 200) (v := ?_) (a' := ?_) (bb 10 55) rfl rfl (by kernel_rfl) (fun _ _ _ h => h) (Or.inl ⟨by rfl, ?_⟩) hHeld ?_ ?_
  rotate_left
  · intro w' s0
    go_simp
    with_reducible rfl
  rotate_left
  · simp only [Act.put, sa, sz, ss, i64_w, i32_w]
    rfl
  refine take_ (i := 6) (N := some 204) (v := ?_) (a' := ?_) (bb 10 119) rfl rfl (by kernel_rfl) (fun _ _ _ h => h) (Or.inl ⟨by rfl, ?_⟩) hHeld ?_ ?_
  rotate_left
  · intro w' s0
    go_simp
    with_reducible rfl
  rotate_left
  · simp only [Act.put, sa, sz, ss, i64_w, i32_w]
    rfl
  refine one_ (i := 3) (N := some 201) (bb 10 127) rfl rfl (by kernel_rfl) (by decide) (fun K hK => ?_)
  refine goes_ Tryz.func25 (by kernel_rfl) rfl #[.pointer (some ⟨g, 0, none⟩), .int .i64 id] (by rfl) rfl rfl (by simp only [List.map_toArray, List.map_cons, List.map_nil]; rfl) ?_
  with_reducible refine (hold_mine HMGD.out id HID.out HOP.out).mono ?_
  rintro e_ w2 ⟨rfl, hm2, u3⟩
  refine ⟨_, rfl, ?_⟩
  have hact2 := HACTD.out.same u3 HPG.out
  have HACT2 := Aside0.mk hact2
  have HM2 := Aside0.mk hm2
  have HU3 := Aside0.mk u3
  have HMR2 := Aside0.mk (mid_ref HMGD.out HMRD.out HD.out u3)
  refine hK.out _ _ ((hact2.cells).2.2.2) (fun hHeld => ?_)
  clear hK K
  refine norm_ (a' := ?_) ?_ ?_
  rotate_left
  · show Act.put _ (some 201) _ = _
    simp only [Act.put, sa, sz, ss, i64_w, i32_w]
    rfl
  refine one_ (i := 7) (N := some 205) (bb 10 255) rfl rfl (by kernel_rfl) (by decide) (fun K hK => ?_)
  refine goes_ Tryz.func71 (by kernel_rfl) rfl #[.pointer (some ⟨r, 0, none⟩), .int .i64 id] (by rfl) rfl rfl (by simp only [List.map_toArray, List.map_cons, List.map_nil]; rfl) ?_
  with_reducible refine (refHold_calls w0 w2 r Fr G HMR2.out HOK.out id _ _ HOP.out).mono ?_
  rintro e_ w3 ⟨rfl, hT⟩
  refine ⟨_, rfl, ?_⟩
  have HT := Aside0.mk hT
  have hact3 : ActAt w3 pb 7 a b id := by
    obtain ⟨_, _, _, _, hs⟩ := hT
    exact HACT2.out.same hs HPR.out
  refine hK.out _ _ ((hact3.cells).2.2.2) (fun hHeld => ?_)
  clear hK K
  refine norm_ (a' := ?_) ?_ ?_
  rotate_left
  · show Act.put _ (some 205) _ = _
    simp only [Act.put, sa, sz, ss, i64_w, i32_w]
    rfl
  refine pure_ (i := 8) (N := some 206) (v := ?_) (a' := ?_) (bb 10 511) rfl rfl (by kernel_rfl) (fun _ _ _ h => h) (Or.inl ⟨by rfl, ?_⟩) ?_ ?_
  rotate_left
  · intro w'
    go_simp
    with_reducible rfl
  rotate_left
  · simp only [Act.put, sa, sz, ss, i64_w, i32_w]
    rfl
  refine pure_ (i := 9) (N := some 6) (v := ?_) (a' := ?_) (bb 10 1023) rfl rfl (by kernel_rfl) (fun _ _ _ h => h) (Or.inl ⟨by rfl, ?_⟩) ?_ ?_
  rotate_left
  · intro w'
    go_simp
    with_reducible rfl
  rotate_left
  · simp only [Act.put, sa, sz, ss, i64_w, i32_w]
    rfl
  refine done_ (by kernel_rfl) ?_
  clear z0 z1 z2 z3
  go_wp2
  go_ret
  exact ⟨rfl, G2, HLIVE.out, ((turnB_gr HMGD.out HMRD.out HD.out HS1.out HS2.out HS3.out HM2.out (fun _ h => h) (fun _ h => .inl h) HU3.out HT.out).from (below_drew (Below.refl _ _))).from HB1.out⟩
set_option maxHeartbeats 16000000 in
set_option maxRecDepth 100000 in
theorem acted_unlink {mm : Nat} (w0 w : World) (g r : Nat) (F : Nat → Prop) (G : GS) (hB : Both w0 w g r F G) (hl : Lay w0) (hL : Live mm G) (hm : mm ≤ 1000) (k : Int) (a b : ByteArray) (id : Int) (hid : (Lit.int .i64 id).wf = true) (hk : k = 4) :
    Calls Tryz.prog 37 #[.pointer (some ⟨g, 0, none⟩), .pointer (some ⟨r, 0, none⟩), .agg #[.int .i64 k, .string a, .string b, .int .i64 id]] w fun ev w' => ev = .returned (.bool true) ∧ ∃ G2, Live (mm + 1) G2 ∧ TurnB w0 w g r F G2 w' := by
  obtain ⟨W1, hW1⟩ : ∃ W1, W1 = w.alloc (.cells #[.int .i64 k, .string a, .string b, .int .i64 id] 69 (0, 0)) := ⟨_, rfl⟩
  have hb1 : Below w.heap.size w W1 := by rw [hW1]; exact below_alloc (Below.refl _ _) _
  have HBI := Aside0.mk hB
  have HB1W := Aside0.mk (hB.step hb1)
  obtain ⟨Fg, Fr, hMg, hMr, s1, s2, hd, s3⟩ := hB
  obtain ⟨pb, hpb⟩ : ∃ pb, pb = w.heap.size := ⟨_, rfl⟩
  have HACT : Aside0 (ActAt W1 pb k a b id) := ⟨by rw [hW1, hpb]; exact World.alloc_heap_new _ _⟩
  have HPG : Aside0 (¬ Fg pb) := ⟨fun h => by have := (hMg.lt h).2; omega⟩
  have HPR : Aside0 (¬ Fr pb) := ⟨fun h => by have := (hMr.2.1 _ h).2; omega⟩
  have HMG := Aside0.mk (hMg.step hb1)
  have HMR := Aside0.mk (hMr.step hb1)
  have HS1 := Aside0.mk s1
  have HS2 := Aside0.mk s2
  have HD := Aside0.mk hd
  have HS3 : Aside0 (∀ k, F k → w0.heap.size ≤ k ∧ k < W1.heap.size) := ⟨fun k hk => ⟨(s3 k hk).1, by have := (s3 k hk).2; have := hb1.size; omega⟩⟩
  have HB1 := Aside0.mk hb1
  have HW1 := Aside0.mk hW1
  have HPB := Aside0.mk hpb
  have HL := Aside0.mk hl
  have HLV := Aside0.mk hL
  have HOK := Aside0.mk hL.ok
  have HM := Aside0.mk hm
  have HID := Aside0.mk hid
  obtain ⟨z0, z1, z2, z3⟩ := HACT.out.cells
  clear hW1 hb1 hMg hMr s1 s2 hd s3 hpb hl hL hm hid
  have e0 : (k == 0) = false := by simp [hk]
  have e1 : (k == 1) = false := by simp [hk]
  have e2 : (k == 11) = false := by simp [hk]
  have e3 : (k == 2) = false := by simp [hk]
  have e4 : (k == 3) = false := by simp [hk]
  have e5 : (k == 4) = true := by simp [hk]
  obtain ⟨rr, ae, G2, hop, hlive⟩ := live_unlink HLV.out a
  have HOP := Aside0.mk hop
  have HLIVE := Aside0.mk hlive
  clear hop hlive
  subst hk
  go_enter Tryz.func37, Tryz.ntmps37
  go_upto_region 1 with (fail)
  rw [← HW1.out, ← HPB.out]
  go_upto_region 17 with (go_at_call 18; refine (unlink_mine HMG.out HL.out 300 a HOP.out).mono ?_; rintro e_ w2 ⟨v2, rfl, hr2, hm2, u3⟩; have HR2 := Aside0.mk hr2; have HM2 := Aside0.mk hm2; have HU3 := Aside0.mk u3; clear hr2 hm2 u3)
  obtain ⟨y0, y1, y2, y3⟩ := (HACT.out.same HU3.out HPG.out).cells
  have HMR2 := Aside0.mk (mid_ref HMG.out HMR.out HD.out HU3.out)
  clear z0 z1 z2 z3
  go_upto_region 18 with (go_at_call 67; refine (refUnlink_calls w0 w2 r Fr G HMR2.out HLV.out a _ _ _ HOP.out).mono ?_; rintro e_ w3 ⟨v3, rfl, hr3, hT⟩; have HR3 := Aside0.mk hr3; have HT := Aside0.mk hT; clear hr3 hT)
  have HR2' : Aside0 (w3.ownsRow W1.heap.size 3 1 v2 rr.length (rr.map (.int .i64))) := ⟨by
    obtain ⟨_, _, _, _, hs⟩ := HT.out
    exact row_same HR2.out hs (fun k hk hf => by have := (HR2.out.lt k hk).1; have := (HMR.out.2.1 k hf).2; omega)⟩
  have HRB : Aside0 (rr.length < 4611686018427387904) := ⟨by have h9 := unlink_len HOP.out; unfold bound at h9; omega⟩
  have hdec : decide (rr = rr) = true := by simp
  go_wp2_with (go_at_call 33; refine (ints_calls _ _ v2 v3 rr rr w3 HR2'.out HR3.out HRB.out).mono ?_; rw [hdec]; rintro e_ w4 ⟨rfl, h4⟩; have H4 := Aside0.mk h4; clear h4)
  go_ret
  exact ⟨rfl, G2, HLIVE.out.mono (Nat.le_succ _), ((turnB_gr HMG.out HMR.out HD.out HS1.out HS2.out HS3.out HM2.out (fun _ h => h) (fun _ h => .inl h) HU3.out HT.out).from HB1.out).to H4.out⟩
set_option maxHeartbeats 16000000 in
set_option maxRecDepth 100000 in
theorem acted_free {mm : Nat} (w0 w : World) (g r : Nat) (F : Nat → Prop) (G : GS) (hB : Both w0 w g r F G) (hl : Lay w0) (hL : Live mm G) (hm : mm ≤ 1000) (k : Int) (a b : ByteArray) (id : Int) (hid : (Lit.int .i64 id).wf = true) (hk : k = 8) :
    Calls Tryz.prog 37 #[.pointer (some ⟨g, 0, none⟩), .pointer (some ⟨r, 0, none⟩), .agg #[.int .i64 k, .string a, .string b, .int .i64 id]] w fun ev w' => ev = .returned (.bool true) ∧ ∃ G2, Live (mm + 1) G2 ∧ TurnB w0 w g r F G2 w' := by
  obtain ⟨W1, hW1⟩ : ∃ W1, W1 = w.alloc (.cells #[.int .i64 k, .string a, .string b, .int .i64 id] 69 (0, 0)) := ⟨_, rfl⟩
  have hb1 : Below w.heap.size w W1 := by rw [hW1]; exact below_alloc (Below.refl _ _) _
  have HBI := Aside0.mk hB
  have HB1W := Aside0.mk (hB.step hb1)
  obtain ⟨Fg, Fr, hMg, hMr, s1, s2, hd, s3⟩ := hB
  obtain ⟨pb, hpb⟩ : ∃ pb, pb = w.heap.size := ⟨_, rfl⟩
  have HACT : Aside0 (ActAt W1 pb k a b id) := ⟨by rw [hW1, hpb]; exact World.alloc_heap_new _ _⟩
  have HPG : Aside0 (¬ Fg pb) := ⟨fun h => by have := (hMg.lt h).2; omega⟩
  have HPR : Aside0 (¬ Fr pb) := ⟨fun h => by have := (hMr.2.1 _ h).2; omega⟩
  have HMG := Aside0.mk (hMg.step hb1)
  have HMR := Aside0.mk (hMr.step hb1)
  have HS1 := Aside0.mk s1
  have HS2 := Aside0.mk s2
  have HD := Aside0.mk hd
  have HS3 : Aside0 (∀ k, F k → w0.heap.size ≤ k ∧ k < W1.heap.size) := ⟨fun k hk => ⟨(s3 k hk).1, by have := (s3 k hk).2; have := hb1.size; omega⟩⟩
  have HB1 := Aside0.mk hb1
  have HW1 := Aside0.mk hW1
  have HPB := Aside0.mk hpb
  have HL := Aside0.mk hl
  have HLV := Aside0.mk hL
  have HOK := Aside0.mk hL.ok
  have HM := Aside0.mk hm
  have HID := Aside0.mk hid
  obtain ⟨z0, z1, z2, z3⟩ := HACT.out.cells
  clear hW1 hb1 hMg hMr s1 s2 hd s3 hpb hl hL hm hid
  have e0 : (k == 0) = false := by simp [hk]
  have e1 : (k == 1) = false := by simp [hk]
  have e2 : (k == 11) = false := by simp [hk]
  have e3 : (k == 2) = false := by simp [hk]
  have e4 : (k == 3) = false := by simp [hk]
  have e5 : (k == 4) = false := by simp [hk]
  have e6 : (k == 5) = false := by simp [hk]
  have e7 : (k == 6) = false := by simp [hk]
  have e8 : (k == 7) = false := by simp [hk]
  have e9 : (k == 8) = true := by simp [hk]
  obtain ⟨rr, ae, G2, hop, hlive, -⟩ := live_free HLV.out (by have := HM.out; omega) id
  have HOP := Aside0.mk hop
  have HLIVE := Aside0.mk hlive
  clear hop hlive
  subst hk
  go_enter Tryz.func37, Tryz.ntmps37
  go_upto_region 1 with (fail)
  rw [← HW1.out, ← HPB.out]
  go_upto_region 33 with (go_at_call 27; refine (free_mine HMG.out 300 id HID.out HOP.out).mono ?_; rintro e_ w2 ⟨v2, rfl, hr2, hm2, u3⟩; have HR2 := Aside0.mk hr2; have HM2 := Aside0.mk hm2; have HU3 := Aside0.mk u3; clear hr2 hm2 u3)
  obtain ⟨y0, y1, y2, y3⟩ := (HACT.out.same HU3.out HPG.out).cells
  have HMR2 := Aside0.mk (mid_ref HMG.out HMR.out HD.out HU3.out)
  clear z0 z1 z2 z3
  go_upto_region 34 with (go_at_call 72; refine (refFree_calls w0 w2 r Fr G HMR2.out HLV.out (by have := HM.out; omega) id _ _ _ HOP.out).mono ?_; rintro e_ w3 ⟨v3, rfl, hr3, hT⟩; have HR3 := Aside0.mk hr3; have HT := Aside0.mk hT; clear hr3 hT)
  have HR2' : Aside0 (w3.ownsRow W1.heap.size 3 1 v2 rr.length (rr.map (.int .i64))) := ⟨by
    obtain ⟨_, _, _, _, hs⟩ := HT.out
    exact row_same HR2.out hs (fun k hk hf => by have := (HR2.out.lt k hk).1; have := (HMR.out.2.1 k hf).2; omega)⟩
  have HRB : Aside0 (rr.length < 4611686018427387904) := ⟨by have h9 := free_len HOP.out; unfold bound at h9; omega⟩
  have hdec : decide (rr = rr) = true := by simp
  go_wp2_with (go_at_call 33; refine (ints_calls _ _ v2 v3 rr rr w3 HR2'.out HR3.out HRB.out).mono ?_; rw [hdec]; rintro e_ w4 ⟨rfl, h4⟩; have H4 := Aside0.mk h4; clear h4)
  go_ret
  exact ⟨rfl, G2, HLIVE.out.mono (Nat.le_succ _), ((turnB_gr HMG.out HMR.out HD.out HS1.out HS2.out HS3.out HM2.out (fun _ h => h) (fun _ h => .inl h) HU3.out HT.out).from HB1.out).to H4.out⟩
theorem names_some {G : GS} (h : Ok G) (p : ByteArray) : ∃ l e, namesG G p = some (l, e) ∧ l.length ≤ bound := by
  unfold namesG
  obtain ⟨⟨fid, fe⟩, hf, hfo, -⟩ := find_ok h p
  rw [hf]
  simp only at hfo ⊢
  by_cases hy : fe = 0
  · rw [if_pos hy]
    obtain ⟨o, ho⟩ := hfo hy
    rw [h.obj ho]
    simp only
    have hx := ok_short h _ ho
    simp only at hx
    by_cases hk : o.kind = 1
    · rw [if_pos hk, if_pos hx]
      exact ⟨_, _, rfl, hx⟩
    · rw [if_neg hk]
      exact ⟨_, _, rfl, Nat.zero_le _⟩
  · rw [if_neg hy]
    exact ⟨_, _, rfl, Nat.zero_le _⟩
set_option maxHeartbeats 16000000 in
set_option maxRecDepth 100000 in
theorem acted_find {mm : Nat} (w0 w : World) (g r : Nat) (F : Nat → Prop) (G : GS) (hB : Both w0 w g r F G) (hl : Lay w0) (hL : Live mm G) (hm : mm ≤ 1000) (k : Int) (a b : ByteArray) (id : Int) (hid : (Lit.int .i64 id).wf = true) (hk : k = 5) :
    Calls Tryz.prog 37 #[.pointer (some ⟨g, 0, none⟩), .pointer (some ⟨r, 0, none⟩), .agg #[.int .i64 k, .string a, .string b, .int .i64 id]] w fun ev w' => ev = .returned (.bool true) ∧ ∃ G2, Live (mm + 1) G2 ∧ TurnB w0 w g r F G2 w' := by
  obtain ⟨W1, hW1⟩ : ∃ W1, W1 = w.alloc (.cells #[.int .i64 k, .string a, .string b, .int .i64 id] 69 (0, 0)) := ⟨_, rfl⟩
  have hb1 : Below w.heap.size w W1 := by rw [hW1]; exact below_alloc (Below.refl _ _) _
  have HBI := Aside0.mk hB
  have HB1W := Aside0.mk (hB.step hb1)
  obtain ⟨Fg, Fr, hMg, hMr, s1, s2, hd, s3⟩ := hB
  obtain ⟨pb, hpb⟩ : ∃ pb, pb = w.heap.size := ⟨_, rfl⟩
  have HACT : Aside0 (ActAt W1 pb k a b id) := ⟨by rw [hW1, hpb]; exact World.alloc_heap_new _ _⟩
  have HPG : Aside0 (¬ Fg pb) := ⟨fun h => by have := (hMg.lt h).2; omega⟩
  have HPR : Aside0 (¬ Fr pb) := ⟨fun h => by have := (hMr.2.1 _ h).2; omega⟩
  have HMG := Aside0.mk (hMg.step hb1)
  have HMR := Aside0.mk (hMr.step hb1)
  have HS1 := Aside0.mk s1
  have HS2 := Aside0.mk s2
  have HD := Aside0.mk hd
  have HS3 : Aside0 (∀ k, F k → w0.heap.size ≤ k ∧ k < W1.heap.size) := ⟨fun k hk => ⟨(s3 k hk).1, by have := (s3 k hk).2; have := hb1.size; omega⟩⟩
  have HB1 := Aside0.mk hb1
  have HW1 := Aside0.mk hW1
  have HPB := Aside0.mk hpb
  have HL := Aside0.mk hl
  have HLV := Aside0.mk hL
  have HOK := Aside0.mk hL.ok
  have HM := Aside0.mk hm
  have HID := Aside0.mk hid
  obtain ⟨z0, z1, z2, z3⟩ := HACT.out.cells
  clear hW1 hb1 hMg hMr s1 s2 hd s3 hpb hl hL hm hid
  have e0 : (k == 0) = false := by simp [hk]
  have e1 : (k == 1) = false := by simp [hk]
  have e2 : (k == 11) = false := by simp [hk]
  have e3 : (k == 2) = false := by simp [hk]
  have e4 : (k == 3) = false := by simp [hk]
  have e5 : (k == 4) = false := by simp [hk]
  have e6 : (k == 5) = true := by simp [hk]
  obtain ⟨⟨fid, fe⟩, hf, -, -⟩ := find_ok HOK.out a
  obtain ⟨kk, ke, hkk⟩ : ∃ kk ke, kindG G id = (kk, ke) := ⟨_, _, rfl⟩
  obtain ⟨A, c, hrr⟩ := HMR.out.1.R
  have HF := Aside0.mk hf
  have HK := Aside0.mk hkk
  have HRR := Aside0.mk hrr
  clear hf hkk hrr
  subst hk
  go_enter Tryz.func37, Tryz.ntmps37
  go_upto_region 1 with (fail)
  rw [← HW1.out, ← HPB.out]
  go_upto_region 21 with (go_at_call 17; refine (find_mine HMG.out HL.out a HF.out).mono ?_; rintro e_ w2 ⟨rfl, hb2⟩; have HB2 := Aside0.mk hb2; clear hb2)
  obtain ⟨y0, y1, y2, y3⟩ := (HACT.out.below HB2.out).cells
  clear z0 z1 z2 z3
  go_upto_region 22 with (go_at_call 68; refine (refFind_calls w2 r G A c (HRR.out.below HB2.out) HOK.out a _ _ HF.out).mono ?_; rintro e_ w3 ⟨rfl, hb3⟩; have HB3 := Aside0.mk (HB2.out.trans (hb3.mono HB2.out.size)); clear hb3)
  obtain ⟨x0, x1, x2, x3⟩ := (HACT.out.below HB3.out).cells
  clear y0 y1 y2 y3
  go_upto_region 23 with (go_at_call 26; refine (kind_mine (HMG.out.step HB3.out) id HID.out HK.out).mono ?_; rintro e_ w4 ⟨rfl, h4⟩; obtain rfl := h4.symm)
  go_wp2_with (go_at_call 69; refine (refKind_calls w3 r G A c (HRR.out.below HB3.out) HOK.out id _ _ HK.out).mono ?_; rintro e_ w4 ⟨rfl, h4⟩; obtain rfl := h4.symm)
  go_ret
  exact ⟨rfl, G, HLV.out.mono (Nat.le_succ _), turnB_same HBI.out (HB1.out.trans (HB3.out.mono HB1.out.size))⟩
set_option maxHeartbeats 16000000 in
set_option maxRecDepth 100000 in
theorem acted_names {mm : Nat} (w0 w : World) (g r : Nat) (F : Nat → Prop) (G : GS) (hB : Both w0 w g r F G) (hl : Lay w0) (hL : Live mm G) (hm : mm ≤ 1000) (k : Int) (a b : ByteArray) (id : Int) (hid : (Lit.int .i64 id).wf = true) (hk : k = 6) :
    Calls Tryz.prog 37 #[.pointer (some ⟨g, 0, none⟩), .pointer (some ⟨r, 0, none⟩), .agg #[.int .i64 k, .string a, .string b, .int .i64 id]] w fun ev w' => ev = .returned (.bool true) ∧ ∃ G2, Live (mm + 1) G2 ∧ TurnB w0 w g r F G2 w' := by
  obtain ⟨W1, hW1⟩ : ∃ W1, W1 = w.alloc (.cells #[.int .i64 k, .string a, .string b, .int .i64 id] 69 (0, 0)) := ⟨_, rfl⟩
  have hb1 : Below w.heap.size w W1 := by rw [hW1]; exact below_alloc (Below.refl _ _) _
  have HBI := Aside0.mk hB
  have HB1W := Aside0.mk (hB.step hb1)
  obtain ⟨Fg, Fr, hMg, hMr, s1, s2, hd, s3⟩ := hB
  obtain ⟨pb, hpb⟩ : ∃ pb, pb = w.heap.size := ⟨_, rfl⟩
  have HACT : Aside0 (ActAt W1 pb k a b id) := ⟨by rw [hW1, hpb]; exact World.alloc_heap_new _ _⟩
  have HPG : Aside0 (¬ Fg pb) := ⟨fun h => by have := (hMg.lt h).2; omega⟩
  have HPR : Aside0 (¬ Fr pb) := ⟨fun h => by have := (hMr.2.1 _ h).2; omega⟩
  have HMG := Aside0.mk (hMg.step hb1)
  have HMR := Aside0.mk (hMr.step hb1)
  have HS1 := Aside0.mk s1
  have HS2 := Aside0.mk s2
  have HD := Aside0.mk hd
  have HS3 : Aside0 (∀ k, F k → w0.heap.size ≤ k ∧ k < W1.heap.size) := ⟨fun k hk => ⟨(s3 k hk).1, by have := (s3 k hk).2; have := hb1.size; omega⟩⟩
  have HB1 := Aside0.mk hb1
  have HW1 := Aside0.mk hW1
  have HPB := Aside0.mk hpb
  have HL := Aside0.mk hl
  have HLV := Aside0.mk hL
  have HOK := Aside0.mk hL.ok
  have HM := Aside0.mk hm
  have HID := Aside0.mk hid
  obtain ⟨z0, z1, z2, z3⟩ := HACT.out.cells
  clear hW1 hb1 hMg hMr s1 s2 hd s3 hpb hl hL hm hid
  have e0 : (k == 0) = false := by simp [hk]
  have e1 : (k == 1) = false := by simp [hk]
  have e2 : (k == 11) = false := by simp [hk]
  have e3 : (k == 2) = false := by simp [hk]
  have e4 : (k == 3) = false := by simp [hk]
  have e5 : (k == 4) = false := by simp [hk]
  have e6 : (k == 5) = false := by simp [hk]
  have e7 : (k == 6) = true := by simp [hk]
  obtain ⟨ls, ne, hn, hlb⟩ := names_some HOK.out a
  obtain ⟨A, c, hrr⟩ := HMR.out.1.R
  have HN := Aside0.mk hn
  have HLB := Aside0.mk hlb
  have HRR := Aside0.mk hrr
  clear hn hrr hlb
  subst hk
  go_enter Tryz.func37, Tryz.ntmps37
  go_upto_region 1 with (fail)
  rw [← HW1.out, ← HPB.out]
  go_upto_region 27 with (go_at_call 20; refine (names_mine HMG.out HL.out a HN.out).mono ?_; rintro e_ w2 ⟨v2, rfl, hr2, hb2⟩; obtain ⟨A2, c2, rfl⟩ := own_sl3 hr2; have HR2 := Aside0.mk hr2; have HB2 := Aside0.mk hb2; clear hr2 hb2)
  obtain ⟨y0, y1, y2, y3⟩ := (HACT.out.below HB2.out).cells
  clear z0 z1 z2 z3
  go_upto_region 28 with (go_at_call 70; refine (refNames_calls w2 r G A c (HRR.out.below HB2.out) HOK.out a _ _ HN.out).mono ?_; rintro e_ w3 ⟨v3, rfl, hr3, hb3⟩; obtain ⟨A3, c3, rfl⟩ := own_sl3 hr3; have HR3 := Aside0.mk hr3; have HR2' := Aside0.mk (row_same HR2.out (SameOn.of_below (S := fun _ => True) hb3) (fun _ _ => trivial)); have HB3 := Aside0.mk (HB2.out.trans (hb3.mono HB2.out.size)); clear hr3 hb3)
  go_wp2_with (go_at_call 58; refine (links_same w3 _ _ A2 A3 c2 c3 ls HR2'.out HR3.out HLB.out).mono ?_; rintro e_ w4 ⟨rfl, m4, h4⟩; have H4 : Aside0 (Below w3.heap.size w3 w4) := (Aside0.mk (by rw [h4]; exact below_dn2 _ _)); clear h4)
  go_ret
  exact ⟨rfl, G, HLV.out.mono (Nat.le_succ _), turnB_same HBI.out (HB1.out.trans ((HB3.out.trans (H4.out.mono HB3.out.size)).mono HB1.out.size))⟩
set_option maxHeartbeats 16000000 in
set_option maxRecDepth 100000 in
theorem acted_none {mm : Nat} (w0 w : World) (g r : Nat) (F : Nat → Prop) (G : GS) (hB : Both w0 w g r F G) (hl : Lay w0) (hL : Live mm G) (hm : mm ≤ 1000) (k : Int) (a b : ByteArray) (id : Int) (hid : (Lit.int .i64 id).wf = true) (hk : k ≠ 0 ∧ k ≠ 1 ∧ k ≠ 11 ∧ k ≠ 2 ∧ k ≠ 3 ∧ k ≠ 4 ∧ k ≠ 5 ∧ k ≠ 6 ∧ k ≠ 7 ∧ k ≠ 8) :
    Calls Tryz.prog 37 #[.pointer (some ⟨g, 0, none⟩), .pointer (some ⟨r, 0, none⟩), .agg #[.int .i64 k, .string a, .string b, .int .i64 id]] w fun ev w' => ev = .returned (.bool true) ∧ ∃ G2, Live (mm + 1) G2 ∧ TurnB w0 w g r F G2 w' := by
  obtain ⟨W1, hW1⟩ : ∃ W1, W1 = w.alloc (.cells #[.int .i64 k, .string a, .string b, .int .i64 id] 69 (0, 0)) := ⟨_, rfl⟩
  have hb1 : Below w.heap.size w W1 := by rw [hW1]; exact below_alloc (Below.refl _ _) _
  have HBI := Aside0.mk hB
  have HB1W := Aside0.mk (hB.step hb1)
  obtain ⟨Fg, Fr, hMg, hMr, s1, s2, hd, s3⟩ := hB
  obtain ⟨pb, hpb⟩ : ∃ pb, pb = w.heap.size := ⟨_, rfl⟩
  have HACT : Aside0 (ActAt W1 pb k a b id) := ⟨by rw [hW1, hpb]; exact World.alloc_heap_new _ _⟩
  have HPG : Aside0 (¬ Fg pb) := ⟨fun h => by have := (hMg.lt h).2; omega⟩
  have HPR : Aside0 (¬ Fr pb) := ⟨fun h => by have := (hMr.2.1 _ h).2; omega⟩
  have HMG := Aside0.mk (hMg.step hb1)
  have HMR := Aside0.mk (hMr.step hb1)
  have HS1 := Aside0.mk s1
  have HS2 := Aside0.mk s2
  have HD := Aside0.mk hd
  have HS3 : Aside0 (∀ k, F k → w0.heap.size ≤ k ∧ k < W1.heap.size) := ⟨fun k hk => ⟨(s3 k hk).1, by have := (s3 k hk).2; have := hb1.size; omega⟩⟩
  have HB1 := Aside0.mk hb1
  have HW1 := Aside0.mk hW1
  have HPB := Aside0.mk hpb
  have HL := Aside0.mk hl
  have HLV := Aside0.mk hL
  have HOK := Aside0.mk hL.ok
  have HM := Aside0.mk hm
  have HID := Aside0.mk hid
  obtain ⟨z0, z1, z2, z3⟩ := HACT.out.cells
  clear hW1 hb1 hMg hMr s1 s2 hd s3 hpb hl hL hm hid
  have e0 : (k == 0) = false := by simp; omega
  have e1 : (k == 1) = false := by simp; omega
  have e2 : (k == 11) = false := by simp; omega
  have e3 : (k == 2) = false := by simp; omega
  have e4 : (k == 3) = false := by simp; omega
  have e5 : (k == 4) = false := by simp; omega
  have e6 : (k == 5) = false := by simp; omega
  have e7 : (k == 6) = false := by simp; omega
  have e8 : (k == 7) = false := by simp; omega
  have e9 : (k == 8) = false := by simp; omega
  clear hk
  go_enter Tryz.func37, Tryz.ntmps37
  go_upto_region 1 with (fail)
  rw [← HW1.out, ← HPB.out]
  go_wp2
  go_ret
  exact ⟨rfl, G, HLV.out.mono (Nat.le_succ _), turnB_same HBI.out HB1.out⟩
theorem acted_calls {mm : Nat} (w0 w : World) (g r : Nat) (F : Nat → Prop) (G : GS) (hB : Both w0 w g r F G) (hl : Lay w0) (hL : Live mm G) (hm : mm ≤ 1000) (k : Int) (a b : ByteArray) (id : Int) (hid : (Lit.int .i64 id).wf = true) :
    Calls Tryz.prog 37 #[.pointer (some ⟨g, 0, none⟩), .pointer (some ⟨r, 0, none⟩), .agg #[.int .i64 k, .string a, .string b, .int .i64 id]] w fun ev w' => ev = .returned (.bool true) ∧ ∃ G2, Live (mm + 1) G2 ∧ TurnB w0 w g r F G2 w' := by
  by_cases h0 : k = 0
  · exact acted_add0 w0 w g r F G hB hl hL hm k a b id hid h0
  by_cases h1 : k = 1
  · exact acted_add1 w0 w g r F G hB hl hL hm k a b id hid h1
  by_cases h11 : k = 11
  · exact acted_add11 w0 w g r F G hB hl hL hm k a b id hid h11
  by_cases h2 : k = 2
  · exact acted_link w0 w g r F G hB hl hL hm k a b id hid h2
  by_cases h3 : k = 3
  · exact acted_soft w0 w g r F G hB hl hL hm k a b id hid h3
  by_cases h4 : k = 4
  · exact acted_unlink w0 w g r F G hB hl hL hm k a b id hid h4
  by_cases h5 : k = 5
  · exact acted_find w0 w g r F G hB hl hL hm k a b id hid h5
  by_cases h6 : k = 6
  · exact acted_names w0 w g r F G hB hl hL hm k a b id hid h6
  by_cases h7 : k = 7
  · exact acted_hold w0 w g r F G hB hl hL hm k a b id hid h7
  by_cases h8 : k = 8
  · exact acted_free w0 w g r F G hB hl hL hm k a b id hid h8
  exact acted_none w0 w g r F G hB hl hL hm k a b id hid ⟨h0, h1, h11, h2, h3, h4, h5, h6, h7, h8⟩
end
end Go.Proofs.YthifdofdoeaemaaGreatDoor.Wk
end
section
namespace Go.Proofs.YthifdofdoeaemaaGreatDoor.Wk
open Go.RowKit Go.Proofs.YthifdofdoeaemaaGreatDoorW.PrintWords Go.Proofs.YthifdofdoeaemaaGreatDoorW.PrintLast Go.Proofs.YthifdofdoeaemaaGreatDoorW.PrintMore
attribute [local go_sem] max2_int min2_int max_two min_two max_three min_three max_four min_four
set_option linter.unusedVariables false
set_option linter.unusedSimpArgs false
section
open Go.RowKit Go.Lib Go.Maps Go.Proofs.YthifdofdoeaemaaGreatDoorQ
attribute [local go_sem] Oper.semAt_some
theorem ok_has1 {G : GS} (h : Ok G) : has G.objs 1 := by obtain ⟨o, ho, -⟩ := h.root; exact ⟨o, ho⟩
theorem ok_small {G : GS} (h : Ok G) : G.objs.length ≤ 1000 := by have := h.size; omega
theorem alike_both {w0 w : World} {g r : Nat} {F : Nat → Prop} {G : GS} (h : Both w0 w g r F G) (hok : Ok G) :
    Calls Tryz.prog 31 #[.pointer (some ⟨g, 0, none⟩), .pointer (some ⟨r, 0, none⟩)] w fun e w' => e = .returned (.bool true) ∧ Below w.heap.size w w' := by
  obtain ⟨Fg, Fr, hMg, hMr, -, -, -, -⟩ := h
  obtain ⟨A, c, hrr⟩ := hMr.1.R
  obtain ⟨B, rfl, hG, -, -, -⟩ := hMg
  refine alike_calls w _ G.next r A c G.objs hrr hok.asc (fun x hx => by have := (hok.ids x hx).1; omega) (ok_has1 hok) (ok_small hok) (ok_short hok) (fun W' hb => ?_) (fun W' hb => ?_) (fun W' hb => ?_)
  · exact nodes_calls B _ W' (hG.below hb) (ok_few hok) (ok_short hok)
  · exact next_calls B _ W' (hG.below hb)
  · exact reach_gen B _ W' (hG.below hb) (ok_closed hok) (ok_has1 hok) (ok_small hok) (ok_short hok)
theorem both_new {w0 w w1 w2 : World} (hb : Below w0.heap.size w0 w) {B' : GB} {G : GS} (hG : GraphAt w1 B' G) (hf : ∀ k, foot B' G k → w.heap.size ≤ k) (h1 : Below w.heap.size w w1) {r : Nat} {v : Value} (hr : RefAt w2 w1.heap.size r G.next v G.objs) (h2 : Below w1.heap.size w1 w2) :
    Both w0 w2 B'.g r (fun k => w.heap.size ≤ k ∧ k < w2.heap.size) G := by
  have hz := hb.size
  have hz1 := h1.size
  have hz2 := h2.size
  refine ⟨foot B' G, fun k => w1.heap.size ≤ k ∧ k < w2.heap.size, ⟨B', rfl, hG.below h2, fun k hk => hk, fun k hk => ⟨by have := hf k hk; omega, by have := hG.foot_lt hk; omega⟩, hb.trans ((h1.trans (h2.mono hz1)).mono hz)⟩, mineR_new (hb.trans (h1.mono hz)) hr h2, fun k hk => ⟨hf k hk, by have := hG.foot_lt hk; omega⟩, fun k hk => ⟨by omega, hk.2⟩, fun k hk hf2 => by have := hG.foot_lt hk; omega, fun k hk => ⟨by omega, hk.2⟩⟩
end
end Go.Proofs.YthifdofdoeaemaaGreatDoor.Wk
end
section
namespace Go.Proofs.YthifdofdoeaemaaGreatDoor.Wk
open Go.RowKit Go.Proofs.YthifdofdoeaemaaGreatDoorW.PrintWords Go.Proofs.YthifdofdoeaemaaGreatDoorW.PrintLast Go.Proofs.YthifdofdoeaemaaGreatDoorW.PrintMore
attribute [local go_sem] max2_int min2_int max_two min_two max_three min_three max_four min_four
set_option linter.unusedVariables false
set_option linter.unusedSimpArgs false
section
open Go.RowKit Go.Lib Go.Maps Go.Proofs.YthifdofdoeaemaaGreatDoorQ
attribute [local go_sem] Oper.semAt_some
theorem Both.below {w0 w : World} {g r : Nat} {F : Nat → Prop} {G : GS} (h : Both w0 w g r F G) : Below w0.heap.size w0 w := by
  obtain ⟨Fg, Fr, hMg, -⟩ := h
  exact hMg.below
theorem Both.lt {w0 w : World} {g r : Nat} {F : Nat → Prop} {G : GS} (h : Both w0 w g r F G) : ∀ k, F k → w0.heap.size ≤ k ∧ k < w.heap.size := by
  obtain ⟨Fg, Fr, -, -, -, -, -, h⟩ := h
  exact h
def One (w0 w : World) (g r m : Nat) : Prop := ∃ F G, Both w0 w g r F G ∧ Live m G
def Half (w0 w : World) (g r h m : Nat) : Prop := ∃ wb F G, ∃ B : GB, Both w0 wb g r F G ∧ Live m G ∧ Below wb.heap.size wb w ∧ B.g = h ∧ GraphAt w B G ∧ ∀ k, foot B G k → wb.heap.size ≤ k
def Two (w0 w : World) (g r h s m : Nat) : Prop := ∃ F1 G1 F2 G2, Both w0 w g r F1 G1 ∧ Both w0 w h s F2 G2 ∧ Live m G1 ∧ Live m G2 ∧ ∀ k, F1 k → ¬ F2 k
theorem Two.swap {w0 w : World} {g r h s m : Nat} (x : Two w0 w g r h s m) : Two w0 w h s g r m := by
  obtain ⟨F1, G1, F2, G2, h1, h2, h3, h4, h5⟩ := x
  exact ⟨F2, G2, F1, G1, h2, h1, h4, h3, fun k hk hf => h5 k hf hk⟩
theorem Two.step {w0 w w' : World} {g r h s m : Nat} (x : Two w0 w g r h s m) (hb : Below w.heap.size w w') : Two w0 w' g r h s m := by
  obtain ⟨F1, G1, F2, G2, h1, h2, h3, h4, h5⟩ := x
  exact ⟨F1, G1, F2, G2, h1.step hb, h2.step hb, h3, h4, h5⟩
theorem Two.mono {w0 w : World} {g r h s m n : Nat} (x : Two w0 w g r h s m) (hn : m ≤ n) : Two w0 w g r h s n := by
  obtain ⟨F1, G1, F2, G2, h1, h2, h3, h4, h5⟩ := x
  exact ⟨F1, G1, F2, G2, h1, h2, h3.mono hn, h4.mono hn, h5⟩
theorem Two.below {w0 w : World} {g r h s m : Nat} (x : Two w0 w g r h s m) : Below w0.heap.size w0 w := by
  obtain ⟨F1, G1, F2, G2, h1, -⟩ := x
  exact h1.below
theorem Two.one {w0 w : World} {g r h s m : Nat} (x : Two w0 w g r h s m) : One w0 w g r m := by
  obtain ⟨F1, G1, F2, G2, h1, -, h3, -, -⟩ := x
  exact ⟨F1, G1, h1, h3⟩
theorem one_new {w w1 w2 : World} {B : GB} {r : Nat} {v : Value} (hG : GraphAt w1 B newG) (h1 : Below w.heap.size w w1) (hf : ∀ k, foot B newG k → w.heap.size ≤ k) (hr : RefAt w2 w1.heap.size r newG.next v newG.objs) (h2 : Below w1.heap.size w1 w2) : One w w2 B.g r 0 :=
  ⟨_, _, both_new (Below.refl _ _) hG hf h1 hr h2, live_new⟩
theorem one_copy {w0 w : World} {g r m : Nat} (x : One w0 w g r m) : Calls Tryz.prog 35 #[.pointer (some ⟨g, 0, none⟩)] w fun e w' => ∃ h, e = .returned (.pointer (some ⟨h, 0, none⟩)) ∧ Half w0 w' g r h m ∧ Below w.heap.size w w' := by
  obtain ⟨F, G, hB, hL⟩ := x
  have hB' := hB
  obtain ⟨Fg, Fr, hMg, hMr, -, -, -, -⟩ := hB
  obtain ⟨B, rfl, hG, -, -, -⟩ := hMg
  refine (copy_calls B G w hG hL.ok.asc (by have := ok_small hL.ok; unfold bound; omega)).mono ?_
  rintro e w' ⟨B', rfl, hG', hf, hb⟩
  exact ⟨B'.g, rfl, ⟨w, F, G, B', hB', hL, hb, rfl, hG', hf⟩, hb⟩
theorem half_copy {w0 w : World} {g r h m : Nat} (x : Half w0 w g r h m) : Calls Tryz.prog 36 #[.pointer (some ⟨r, 0, none⟩)] w fun e w' => ∃ s, e = .returned (.pointer (some ⟨s, 0, none⟩)) ∧ Two w0 w' g r h s m ∧ Below w.heap.size w w' := by
  obtain ⟨wb, F, G, B, hB, hL, hb, rfl, hG, hf⟩ := x
  have hB1 := hB.step hb
  have hB2 := hB1
  obtain ⟨Fg, Fr, hMg, hMr, -, -, -, -⟩ := hB1
  obtain ⟨A, c, hr⟩ := hMr.1.R
  refine (refCopy_calls w r G.next A c G.objs hr (by have := ok_small hL.ok; unfold bound; omega) (ok_short hL.ok)).mono ?_
  rintro e w' ⟨v, rfl, hra, hb2⟩
  refine ⟨w.heap.size, rfl, ⟨F, G, _, G, hB2.step hb2, both_new hB.below hG hf hb hra hb2, hL, hL, fun k hk hf => ?_⟩, hb2⟩
  have := (hB.lt k hk).2
  have := hf.1
  omega
theorem two_acted {w0 w : World} {g r h s m : Nat} (x : Two w0 w g r h s m) (hl : Lay w0) (hm : m ≤ 1000) (k : Int) (a b : ByteArray) (id : Int) (hid : (Lit.int .i64 id).wf = true) :
    Calls Tryz.prog 37 #[.pointer (some ⟨g, 0, none⟩), .pointer (some ⟨r, 0, none⟩), .agg #[.int .i64 k, .string a, .string b, .int .i64 id]] w fun ev w' => ev = .returned (.bool true) ∧ Two w0 w' g r h s (m + 1) := by
  obtain ⟨F1, G1, F2, G2, h1, h2, h3, h4, h5⟩ := x
  refine (acted_calls w0 w g r F1 G1 h1 hl h3 hm k a b id hid).mono ?_
  rintro e w' ⟨rfl, G3, hL3, F3, hB3, hs1, hs2, hs3⟩
  refine ⟨rfl, F3, G3, F2, G2, hB3, h2.same hs3 (fun k hk hf => h5 k hf hk) (fun k hk hf => by have := (h1.lt k hf).1; omega), hL3, h4.mono (by omega), fun k hk hf => ?_⟩
  rcases hs2 k hk with h | h
  · exact h5 k h hf
  · have := (h2.lt k hf).2; omega
theorem two_alike {w0 w : World} {g r h s m : Nat} (x : Two w0 w g r h s m) :
    Calls Tryz.prog 31 #[.pointer (some ⟨g, 0, none⟩), .pointer (some ⟨r, 0, none⟩)] w fun e w' => e = .returned (.bool true) ∧ Two w0 w' g r h s m := by
  have hx := x
  obtain ⟨F1, G1, F2, G2, h1, h2, h3, h4, h5⟩ := x
  refine (alike_both h1 h3.ok).mono ?_
  rintro e w' ⟨rfl, hb⟩
  exact ⟨rfl, hx.step hb⟩
set_option maxHeartbeats 16000000 in
set_option maxRecDepth 100000 in
theorem law11_calls (A : Option Addr) (c : Nat) (acts : List ActD) (w : World) (hl : Lay w) (hr : ActRow w A acts) (hc : acts.length ≤ c) (hwf : ∀ x ∈ acts, (Lit.int .i64 x.2.2.2).wf = true) :
    Calls Tryz.prog 11 #[.slice A acts.length c] w fun e w' => e = .returned (.bool true) ∧ Below w.heap.size w w' := by
  have HL := Aside0.mk hl
  have HR := Aside0.mk hr
  have HWF := Aside0.mk hwf
  clear hl hr hwf
  go_enter Tryz.func11, Tryz.ntmps11
  go_upto_region 2 with (first
    | (go_at_call 13; refine (new_calls _).mono ?_; rintro e_ w1 ⟨B1, rfl, hG1, hb1, hf1⟩; obtain ⟨g1, hg1⟩ : ∃ g1, g1 = B1.g := ⟨_, rfl⟩; have HG1 := Aside0.mk hG1; have HB1 := Aside0.mk hb1; have HF1 := Aside0.mk hf1; clear hG1 hb1 hf1)
    | (go_at_call 34; refine (refMade_calls _).mono ?_; rintro e_ w2 ⟨r1, v1, rfl, hr1, hb2⟩; have H1 := Aside0.mk (one_new HG1.out HB1.out HF1.out hr1 hb2); clear hr1 hb2))
  go_upto_region 4 with (fail)
  go_upto_region 5 with (first
    | (go_at_call 35; refine (one_copy H1.out).mono ?_; rintro e_ w3 ⟨h1, rfl, hh1, -⟩; have H2 := Aside0.mk hh1; clear hh1)
    | (go_at_call 36; refine (half_copy H2.out).mono ?_; rintro e_ w4 ⟨s1, rfl, hs1, -⟩; have H3 := Aside0.mk hs1; clear hs1))
  go_wp2
  go_loopg [3, 4, 5, 6, 7] 60 (fun kq v3 v4 v5 v6 v7 W => ∃ (i g r h s : Nat), v3 = .pointer (some ⟨g, 0, none⟩) ∧ v4 = .pointer (some ⟨r, 0, none⟩) ∧ v5 = .pointer (some ⟨h, 0, none⟩) ∧ v6 = .pointer (some ⟨s, 0, none⟩) ∧ v7 = .int .i64 (i : Int) ∧ Aside0 (i ≤ 60 ∧ 60 - i ≤ kq ∧ i ≤ acts.length) ∧ Aside0 (Two w W g r h s i))
  case atStart => exact ⟨0, _, _, _, _, rfl, rfl, rfl, rfl, rfl, ⟨by omega, by omega, by omega⟩, H3⟩
  case round =>
    obtain ⟨i, g, r, h, s, rfl, rfl, rfl, rfl, rfl, HI, H⟩ := hrel
    clear H1 H2 H3 HG1 HB1 HF1
    have w1_ : i ≤ 60 → wrap64 ((i : Int) + 1) = i + 1 := fun h => by unfold wrap64; omega
    replace w1_ := w1_ HI.out.1
    have HLY : Aside0 (Lay wr) := ⟨lay_below HL.out H.out.below⟩
    by_cases hlt : i < acts.length ∧ i < 60
    rotate_left
    · by_cases hl2 : i < acts.length
      · have q1 : decide ((i : Int) < (acts.length : Int)) = true := decide_eq_true (by omega)
        have q2 : decide ((i : Int) < 60) = false := decide_eq_false (by omega)
        have q3 : (i < acts.length) = True := eq_true hl2
        clear hlt hl2
        go_wp2_with (first
          | (go_at_call 31; refine (two_alike H.out.swap).mono ?_; rintro e_ w5 ⟨rfl, ht⟩; have H5 := Aside0.mk ht; clear ht)
          | (go_at_call 14; refine (lives_calls _ (lay_below HL.out H5.out.below)).mono ?_; rintro e_ w6 ⟨rfl, hb6⟩; have HB6 := Aside0.mk hb6; clear hb6))
        go_ret
        exact ⟨rfl, H5.out.below.trans (HB6.out.mono H5.out.below.size)⟩
      · have q1 : decide ((i : Int) < (acts.length : Int)) = false := decide_eq_false (by omega)
        have q3 : (i < acts.length) = False := eq_false hl2
        clear hlt hl2
        go_wp2_with (first
          | (go_at_call 31; refine (two_alike H.out.swap).mono ?_; rintro e_ w5 ⟨rfl, ht⟩; have H5 := Aside0.mk ht; clear ht)
          | (go_at_call 14; refine (lives_calls _ (lay_below HL.out H5.out.below)).mono ?_; rintro e_ w6 ⟨rfl, hb6⟩; have HB6 := Aside0.mk hb6; clear hb6))
        go_ret
        exact ⟨rfl, H5.out.below.trans (HB6.out.mono H5.out.below.size)⟩
    obtain ⟨hlt, h60⟩ := hlt
    have q1 : decide ((i : Int) < (acts.length : Int)) = true := decide_eq_true (by omega)
    have q2 : decide ((i : Int) < 60) = true := decide_eq_true (by omega)
    obtain ⟨x, hx⟩ : ∃ x, acts[i]'hlt = x := ⟨_, rfl⟩
    obtain ⟨b, o, rfl, hbl, hrow⟩ := HR.out.below H.out.below (by omega)
    have hrx := hrow i x (by rw [List.getElem?_eq_getElem hlt, hx])
    have HRA := Aside0.mk hrx
    have HWX := Aside0.mk (HWF.out x (by rw [← hx]; exact List.getElem_mem hlt))
    have p1 : (0 : Int) ≤ (i : Int) := by omega
    have q3 : ((i : Int) < (acts.length : Int)) = True := eq_true (by omega)
    have q5 : (i < acts.length) = True := eq_true hlt
    obtain ⟨kd, P, Q, nid⟩ := x
    have xk : wr.cell? ⟨b, o + i * 4, none⟩ = some (.int .i64 kd) := hrx 0 _ rfl
    have xk1 : wr.cell? ⟨b, o + i * 4 + 1, none⟩ = some (.string P) := hrx 1 _ rfl
    have xk2 : wr.cell? ⟨b, o + i * 4 + 2, none⟩ = some (.string Q) := hrx 2 _ rfl
    have xk3 : wr.cell? ⟨b, o + i * 4 + 3, none⟩ = some (.int .i64 nid) := hrx 3 _ rfl
    have HLT := Aside0.mk hlt
    have H60 := Aside0.mk h60
    clear hrow hx hrx hlt h60
    by_cases k9 : kd = 9
    · subst k9
      go_upto_region 14 with (fail)
      go_upto_region 7 with (first
        | (go_at_call 37; refine (two_acted (H.out.swap.step (by first | exact Below.refl _ _ | exact below_drew (Below.refl _ _))) HL.out (by have := H60.out; omega) 9 P Q nid HWX.out).mono ?_; rintro e_ w5 ⟨rfl, ht⟩; have H5 := Aside0.mk ht; clear ht)
        | (go_at_call 31; refine (two_alike (H5.out.step (by first | exact Below.refl _ _ | exact below_drew (Below.refl _ _)))).mono ?_; rintro e_ w6 ⟨rfl, ht⟩; have H6 := Aside0.mk ht; clear ht))
      go_wp2
      go_roundg (gk - 1)
      case measure => have := HI.out; have := H60.out; omega
      case rel => exact ⟨i + 1, _, _, _, _, rfl, rfl, rfl, rfl, by first | rfl | (rw [w1_]; rfl), ⟨by have := H60.out; omega, by have := HI.out; have := H60.out; omega, by have := HLT.out; omega⟩, H6⟩
    by_cases k10 : kd = 10
    · subst k10
      go_upto_region 14 with (first
        | (go_at_call 35; refine (one_copy H.out.one).mono ?_; rintro e_ w3 ⟨h2, rfl, hh1, hb3⟩; have H2 := Aside0.mk hh1; have HB3 := Aside0.mk hb3; clear hh1 hb3)
        | (go_at_call 36; refine (half_copy H2.out).mono ?_; rintro e_ w4 ⟨s2, rfl, hs1, hb4⟩; have H3 := Aside0.mk hs1; have HB4 := Aside0.mk (HB3.out.trans (hb4.mono HB3.out.size)); clear hs1 hb4))
      replace xk := (HB4.out.cell (World.block_lt_of_cell? _ _ xk)).trans xk
      replace xk1 := (HB4.out.cell (World.block_lt_of_cell? _ _ xk1)).trans xk1
      replace xk2 := (HB4.out.cell (World.block_lt_of_cell? _ _ xk2)).trans xk2
      replace xk3 := (HB4.out.cell (World.block_lt_of_cell? _ _ xk3)).trans xk3
      go_upto_region 7 with (first
        | (go_at_call 37; refine (two_acted (H3.out.step (by first | exact Below.refl _ _ | exact below_drew (Below.refl _ _))) HL.out (by have := H60.out; omega) 10 P Q nid HWX.out).mono ?_; rintro e_ w5 ⟨rfl, ht⟩; have H5 := Aside0.mk ht; clear ht)
        | (go_at_call 31; refine (two_alike (H5.out.step (by first | exact Below.refl _ _ | exact below_drew (Below.refl _ _)))).mono ?_; rintro e_ w6 ⟨rfl, ht⟩; have H6 := Aside0.mk ht; clear ht))
      go_wp2
      go_roundg (gk - 1)
      case measure => have := HI.out; have := H60.out; omega
      case rel => exact ⟨i + 1, _, _, _, _, rfl, rfl, rfl, rfl, by first | rfl | (rw [w1_]; rfl), ⟨by have := H60.out; omega, by have := HI.out; have := H60.out; omega, by have := HLT.out; omega⟩, H6⟩
    have b9 : (kd == 9) = false := by simpa using k9
    have b10 : (kd == 10) = false := by simpa using k10
    clear k9 k10
    go_upto_region 14 with (fail)
    go_upto_region 7 with (first
      | (go_at_call 37; refine (two_acted (H.out.step (by first | exact Below.refl _ _ | exact below_drew (Below.refl _ _))) HL.out (by have := H60.out; omega) kd P Q nid HWX.out).mono ?_; rintro e_ w5 ⟨rfl, ht⟩; have H5 := Aside0.mk ht; clear ht)
      | (go_at_call 31; refine (two_alike (H5.out.step (by first | exact Below.refl _ _ | exact below_drew (Below.refl _ _)))).mono ?_; rintro e_ w6 ⟨rfl, ht⟩; have H6 := Aside0.mk ht; clear ht))
    go_wp2
    go_roundg (gk - 1)
    case measure => have := HI.out; have := H60.out; omega
    case rel => exact ⟨i + 1, _, _, _, _, rfl, rfl, rfl, rfl, by first | rfl | (rw [w1_]; rfl), ⟨by have := H60.out; omega, by have := HI.out; have := H60.out; omega, by have := HLT.out; omega⟩, H6⟩
end
end Go.Proofs.YthifdofdoeaemaaGreatDoor.Wk
end
