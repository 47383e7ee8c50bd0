-- Texts that the row GraphLoads leans on, joined by wip/tools/mkclaim.py: GLoadG, Wk0, Wk1, Wk2, Wk3, Wk4, Wk5, GRef, GRefR, GRNode, GRReach
import Derived.Test.YthifdofdoeaemaaGreatDoorCGraphLoads3
import Derived.Test.YthifdofdoeaemaaGreatDoorProg
import Derived.Below
import Derived.Deep.Draws
import Derived.Deep.AppendLies
import Derived.Maps.AppendAt
import Derived.OwnWalk
import Derived.Laws.BytesArg
import Derived.Laws.MakeOwn
import Derived.Laws.OwnMore
import Derived.Deep.OwnRows
import Derived.Tactics
import Derived.Lib.ConvBytes
import Derived.Laws.Slices
import Derived.WalkKit
import Derived.KernelRfl
import Derived.RowKit3
import Derived.Deep.LoopGhost
import Derived.Deep.QuietTactic
import Derived.BigQuiet
import Derived.WideLaws
import Derived.Deep.DeepCutAuto
import Derived.Deep.CutBlock
import Derived.Deep.RegionHeld3
import Derived.Laws.Rows
import Derived.Lib.AppendStr
import Derived.ArgAppend
import Derived.Laws.IdiomCopy
import Derived.OrdersHeld
import Derived.Laws.BitsLemmas
import Derived.RowKit
import Derived.WalkSpells
import Derived.Sort.LoopGhostIn
import Derived.Sort.CutIn
import Derived.Shelf.Abstract
import Derived.Shelf.RegionOpen
import Derived.OwnWalkIn
import Derived.TacticsInMore
import Derived.LoopNIn
import Derived.LoopIn
section
namespace Go.Proofs.YthifdofdoeaemaaGreatDoor.Wk
open Go.RowKit Go.Proofs.YthifdofdoeaemaaGreatDoorW.PrintWords Go.Proofs.YthifdofdoeaemaaGreatDoorW.PrintLast Go.Proofs.YthifdofdoeaemaaGreatDoorW.PrintMore
attribute [local go_sem] max2_int min2_int max_two min_two max_three min_three max_four min_four
set_option linter.unusedVariables false
set_option linter.unusedSimpArgs false
section
open Go.RowKit Go.Lib Go.Maps Go.Proofs.YthifdofdoeaemaaGreatDoorQ
attribute [local go_sem] Oper.semAt_some
def LdAns (next : Int) (l : List (Int × GO)) (w : World) (e : Ending) (w' : World) : Prop :=
  (LoadP next l ∧ ∃ B : GB, e = .returned (.tuple #[.pointer (some ⟨B.g, 0, none⟩), .int .i64 0]) ∧ GraphAt w' B (ldG next l) ∧ (∀ q, foot B (ldG next l) q → w.heap.size ≤ q) ∧ Below w.heap.size w w') ∨
  (¬ LoadP next l ∧ e = .returned (.tuple #[.pointer none, .int .i64 5]) ∧ Below w.heap.size w w')
theorem ld_no {next : Int} {l : List (Int × GO)} {w w' : World} (h : ¬ LoadP next l) (hb : Below w.heap.size w w') : LdAns next l w (.returned (.tuple #[.pointer none, .int .i64 5])) w' := .inr ⟨h, rfl, hb⟩
theorem GraphAt.lookNone {W : World} {B : GB} {G : GS} (h : GraphAt W B G) {id : Int} (hw : (Lit.int .i64 id).wf = true) (ho : G.at id = none) : (Instr.lookup 71 (.map (some B.mb)) (.int .i64 id) false).run Tryz.prog W = .ok (.pointer none) W := by
  have := h.look id (Tryz.zeroValue75 W) (keyOf_int_mk Tryz.underlying3 hw)
  rw [ho] at this
  exact this
theorem has_none {G : GS} {id : Int} (h : ¬ has G.objs id) : G.at id = none := by
  cases e : G.at id with
  | none => rfl
  | some o => exact absurd ⟨o, at_mem e⟩ h
theorem asc_take {l : List (Int × GO)} {i : Nat} {x : Int × GO} (h : Asc (l.take i)) (hx : l[i]? = some x) (hl : ∀ p y, i = p + 1 → l[p]? = some y → y.1 < x.1) : Asc (l.take (i + 1)) := by
  obtain ⟨h1, e1⟩ := List.getElem?_eq_some_iff.1 hx
  rw [List.take_succ_eq_append_getElem h1, e1]
  refine List.pairwise_append.2 ⟨h, List.pairwise_singleton _ _, fun a ha b hb => ?_⟩
  obtain rfl := List.mem_singleton.1 hb
  obtain ⟨m, hm⟩ := List.mem_iff_getElem?.1 ha
  have hml := (List.getElem?_eq_some_iff.1 hm).1
  rw [List.length_take] at hml
  obtain ⟨y, hy⟩ : ∃ y, l[i - 1]? = some y := ⟨_, List.getElem?_eq_getElem (by omega)⟩
  have hyx := hl (i - 1) y (by omega) hy
  by_cases e : m = i - 1
  · subst e
    rw [List.getElem?_take_of_lt (by omega), hy] at hm
    rw [← Option.some.inj hm]
    exact hyx
  · obtain ⟨h3, e3⟩ := List.getElem?_eq_some_iff.1 hm
    obtain ⟨h4, e4⟩ : ∃ (h4 : i - 1 < (l.take i).length), (l.take i)[i - 1]'h4 = y := by
      refine ⟨by rw [List.length_take]; omega, ?_⟩
      obtain ⟨h5, e5⟩ := List.getElem?_eq_some_iff.1 hy
      rw [List.getElem_take]
      exact e5
    have := asc_get h (show m < i - 1 by omega) h4
    rw [e3, e4] at this
    omega
set_option maxHeartbeats 16000000 in
set_option maxRecDepth 100000 in
theorem load_gen (next : Int) (l : List (Int × GO)) (hwf : ∀ x ∈ l, (Lit.int .i64 x.1).wf = true) (hwk : ∀ x ∈ l, ∀ k ∈ x.2.links, (Lit.int .i64 k.2.1).wf = true) (hlen : sumO lenO l ≤ 100000) (hll : l.length ≤ 100000) (w : World) (hl : Lay w) (A : Option Addr) (k0 : Nat) (hn : NodesR w A l) :
    Calls Tryz.prog 28 #[.int .i64 next, .slice A l.length k0] w fun e w' => LdAns next l w e w' := by
  have HWF := Aside0.mk hwf
  have HWK := Aside0.mk hwk
  have HLL := Aside0.mk hlen
  have HL := Aside0.mk hl
  have HN := Aside0.mk hn
  have HBN := Aside0.mk hll
  have hmk : ∀ t w, (Instr.makeMap t none).run Tryz.prog w = .ok (.map (some w.heap.size)) (w.alloc (.map #[] 0)) := fun _ _ => rfl
  clear hwf hwk hlen hl hn hll
  by_cases hl0 : l = []
  · subst hl0
    go_enter Tryz.func28, Tryz.ntmps28
    go_wp2
    go_ret2
    exact ld_no (fun h => by have := h.some_; cases this) (Below.refl _ _)
  have hlen0 : 0 < l.length := List.length_pos_iff.2 hl0
  have HLEN0 := Aside0.mk hlen0
  have z4 : ((l.length : Int) == 0) = false := by simpa using (by omega : ¬ l.length = 0)
  have z4' : (l = []) = False := eq_false hl0
  by_cases hbig : 128 < l.length
  · have z5 : decide (128 < (l.length : Int)) = true := decide_eq_true (by omega)
    have HNO : Aside0 (¬ LoadP next l) := ⟨fun h => by have := h.size; omega⟩
    clear hbig hlen0 hl0
    go_enter Tryz.func28, Tryz.ntmps28
    go_wp2
    go_ret2
    exact ld_no HNO.out (Below.refl _ _)
  have z5 : decide (128 < (l.length : Int)) = false := decide_eq_false (by omega)
  have HSZ : Aside0 (l.length ≤ 128) := ⟨by omega⟩
  obtain ⟨x0, hx0⟩ : ∃ x0, l[0]? = some x0 := ⟨_, List.getElem?_eq_getElem hlen0⟩
  obtain ⟨g0, o0, A0, c0, rfl, hg0, z1, z2, -, -, -⟩ := HN.out.at hx0
  simp only [Nat.zero_mul, Nat.add_zero] at z1 z2
  have z6 : ((0 : Int) < (l.length : Int)) = True := eq_true (by omega)
  have z7 : (0 < l.length) = True := eq_true hlen0
  have HX0 := Aside0.mk hx0
  have HG0 := Aside0.mk hg0
  clear hbig hlen0 hx0 hg0 hl0
  by_cases hr1 : x0.1 = 1
  rotate_left
  · have z8 : (x0.1 != 1) = true := by simpa using hr1
    have HNO : Aside0 (¬ LoadP next l) := ⟨fun h => hr1 (h.head x0 HX0.out).1⟩
    clear hr1
    go_enter Tryz.func28, Tryz.ntmps28
    go_wp2
    go_ret2
    exact ld_no HNO.out (Below.refl _ _)
  by_cases hr2 : x0.2.kind = 1
  rotate_left
  · have z8 : (x0.2.kind != 1) = true := by simpa using hr2
    have HNO : Aside0 (¬ LoadP next l) := ⟨fun h => hr2 (h.head x0 HX0.out).2⟩
    rw [hr1] at z1
    clear hr1 hr2
    go_enter Tryz.func28, Tryz.ntmps28
    go_wp2
    go_ret2
    exact ld_no HNO.out (Below.refl _ _)
  have HHD : Aside0 (∀ x, l[0]? = some x → x.1 = 1 ∧ x.2.kind = 1) := ⟨fun x hx => by rw [HX0.out] at hx; rw [← Option.some.inj hx]; exact ⟨hr1, hr2⟩⟩
  rw [hr1] at z1
  rw [hr2] at z2
  clear hr1 hr2
  by_cases hnx : next ≤ 1
  · have z8 : decide (next ≤ 1) = true := decide_eq_true hnx
    have HNO : Aside0 (¬ LoadP next l) := ⟨fun h => by have := h.next_; omega⟩
    clear hnx
    go_enter Tryz.func28, Tryz.ntmps28
    go_wp2
    go_ret2
    exact ld_no HNO.out (Below.refl _ _)
  have z8 : decide (next ≤ 1) = false := decide_eq_false hnx
  have HNX : Aside0 (1 < next) := ⟨by omega⟩
  clear hnx
  go_enter Tryz.func28, Tryz.ntmps28
  go_upto_region 3 with (fail)
  clear z1 z2 z4 z4' z5 z6 z7 z8
  obtain ⟨W1, hW1⟩ : ∃ W1, W1 = (w.alloc (.map #[] 0)).alloc (.cells #[.int .i64 next, .map (some w.heap.size), .int .i64 0] 73 (0, 0)) := ⟨_, rfl⟩
  obtain ⟨hge, hbe⟩ := graph_empty w W1 next hW1
  have HGE := Aside0.mk hge
  have HBE := Aside0.mk hbe
  have HW1 := Aside0.mk hW1
  have hzz : (w.alloc (.map #[] 0)).heap.size = w.heap.size + 1 := by simp
  clear hge hbe hW1
  go_upto_region 4 with (fail)
  rw [← HW1.out]
  obtain ⟨gb, hgb⟩ : ∃ gb, gb = w.heap.size + 1 := ⟨_, rfl⟩
  rw [← hgb]
  have HGB := Aside0.mk hgb
  clear hgb hzz hmk
  go_wp2
  go_loopg [47] l.length (fun kq v47 W => ∃ (i : Nat) (iv : Int) (B : GB), v47 = .int .i64 iv ∧ Aside0 (iv = (i : Int)) ∧ Aside0 (i ≤ l.length ∧ l.length - i ≤ kq) ∧ Aside0 (B.g = gb) ∧ Aside0 (GraphAt W B ⟨next, 0, (l.take i).map emptyO⟩) ∧ Aside0 (∀ q, foot B ⟨next, 0, (l.take i).map emptyO⟩ q → w.heap.size ≤ q) ∧ Aside0 (Below w.heap.size w W) ∧
    Aside0 (∀ x ∈ l.take i, MayP x.2.kind x.2.links) ∧ Aside0 (Asc (l.take i)) ∧ Aside0 (∀ x ∈ l.take i, x.1 < next))
  case atStart => exact ⟨0, 0, _, rfl, ⟨rfl⟩, ⟨by omega, by omega⟩, ⟨HGB.out.symm⟩, HGE, ⟨fun q hq => by rcases hq with rfl | rfl | ⟨x, hx, -⟩; exact Nat.le_succ _; exact Nat.le_refl _; cases hx⟩, HBE, ⟨by simp⟩, ⟨List.Pairwise.nil⟩, ⟨by simp⟩⟩
  case round =>
    obtain ⟨i, iv, B, rfl, HIV, HI, HBG, HG, HFT, HB, HMY, HAS, HBL⟩ := hrel
    by_cases hlt : i < l.length
    · obtain ⟨x, hx⟩ : ∃ x, l[i]? = some x := ⟨_, List.getElem?_eq_getElem hlt⟩
      have HX := Aside0.mk hx
      have HXM := Aside0.mk (List.mem_of_getElem? hx)
      have HTK : Aside0 (l.take (i + 1) = l.take i ++ [x]) := ⟨by obtain ⟨h1, e1⟩ := List.getElem?_eq_some_iff.1 hx; rw [List.take_succ_eq_append_getElem h1, e1]⟩
      have HNW := Aside0.mk (HN.out.below HB.out)
      obtain ⟨g0', o0', Ax, cx, e0, -, y1, y2, y3, hcx, hlr⟩ := HNW.out.at hx
      obtain ⟨rfl, rfl⟩ : g0 = g0' ∧ o0 = o0' := by simpa using e0
      have HLR := Aside0.mk hlr
      have HLT := Aside0.mk hlt
      have q1 : decide (iv < (l.length : Int)) = true := decide_eq_true (by have := HIV.out; omega)
      have q2 : (iv < (l.length : Int)) = True := eq_true (by have := HIV.out; omega)
      have q3 : (0 : Int) ≤ iv := by have := HIV.out; omega
      have q4 : iv.toNat = i := by have := HIV.out; omega
      obtain ⟨xb, hxb⟩ : ∃ xb, xb = wr.heap.size := ⟨_, rfl⟩
      obtain ⟨W5, hW5⟩ : ∃ W5, W5 = wr.alloc (.cells #[.int .i64 x.1, .int .i64 x.2.kind, .slice Ax x.2.links.length cx] 50 (0, 0)) := ⟨_, rfl⟩
      have hb5 : Below wr.heap.size wr W5 := by rw [hW5]; exact below_alloc (Below.refl _ _) _
      have hx5 : W5.heap[xb]? = some (.cells #[.int .i64 x.1, .int .i64 x.2.kind, .slice Ax x.2.links.length cx] 50 (0, 0)) := by rw [hW5, hxb]; exact World.alloc_heap_new _ _
      have HW5 := Aside0.mk hW5
      have HB5 := Aside0.mk hb5
      have HX5 := Aside0.mk hx5
      have HXB := Aside0.mk hxb
      have HBW5 := Aside0.mk (HB.out.trans (hb5.mono HB.out.size))
      clear hx hlt hxb hW5 hb5 hx5 hlr hcx e0
      go_upto_region 7 with (fail)
      rw [← HW5.out, ← HXB.out]
      clear y1 y2 y3 q1
      have d0 : W5.cell? ⟨xb, 0, none⟩ = some (.int .i64 x.1) := (blk_cell HX5.out 0).trans rfl
      have d1 : W5.cell? ⟨xb, 1, none⟩ = some (.int .i64 x.2.kind) := (blk_cell HX5.out 1).trans rfl
      have d2 : W5.cell? ⟨xb, 2, none⟩ = some (.slice Ax x.2.links.length cx) := (blk_cell HX5.out 2).trans rfl
      have w1_ : wrap64 (iv + 1) = iv + 1 := wrap_ok9 _ (by omega) (by have := HIV.out; have := HSZ.out; have := HLT.out; omega)
      have w2_ : wrap64 (iv - 1) = iv - 1 := wrap_ok9 _ (by omega) (by have := HIV.out; have := HSZ.out; have := HLT.out; omega)
      clear q2
      by_cases hmx : MayP x.2.kind x.2.links
      rotate_left
      · have HMX := Aside0.mk hmx
        have HNO : Aside0 (¬ LoadP next l) := ⟨fun h => hmx (h.may x HXM.out)⟩
        clear hmx
        have hS : W5.drew.cell? ⟨xb, 0, none⟩ = some (.int .i64 x.1) ∧ W5.drew.cell? ⟨xb, 1, none⟩ = some (.int .i64 x.2.kind) ∧ W5.drew.cell? ⟨xb, 2, none⟩ = some (.slice Ax x.2.links.length cx) ∧ Below W5.heap.size W5 W5.drew := ⟨d0, d1, d2, below_drew (Below.refl _ _)⟩
        refine start_ (n := 24) (S := fun W' => W'.cell? ⟨xb, 0, none⟩ = some (.int .i64 x.1) ∧ W'.cell? ⟨xb, 1, none⟩ = some (.int .i64 x.2.kind) ∧ W'.cell? ⟨xb, 2, none⟩ = some (.slice Ax x.2.links.length cx) ∧ Below W5.heap.size W5 W') (ds := []) #[false, false, false, false, false, false, false, false, false, false, false, false, false, false, false, false, false, false, false, false, false, false, false, false] (by kernel_rfl) rfl rfl hS (fun hHeld => ?_)
        refine take_ (i := 0) (N := some 52) (v := ?_) (a' := ?_) (bb 24 1) rfl rfl (by kernel_rfl) (fun _ _ _ h => h) (Or.inl ⟨by rfl, ?_⟩) hHeld ?_ ?_
        rotate_left
        · rintro w' ⟨s1_, s2_, s3_, s4_⟩
          go_simp
          with_reducible rfl
        rotate_left
        · simp only [Act.put, sa, sz, ss, i64_w, i32_w]
          rfl
        refine one_ (i := 1) (N := some 53) (bb 24 3) rfl rfl (by kernel_rfl) (by decide) (fun K hK => ?_)
        skip
        refine goes_ Tryz.func51 (by kernel_rfl) rfl #[.agg #[.int .i64 x.1, .int .i64 x.2.kind, .slice Ax x.2.links.length cx]] (by rfl) rfl rfl (by (simp only [List.map_toArray, List.map_cons, List.map_nil]); rfl) ?_
        refine (may_gen _ (lay_below HL.out (HBW5.out.trans (hHeld.2.2.2.mono HBW5.out.size))) x.1 x.2.kind Ax cx x.2.links (HLR.out.below (HB5.out.trans (hHeld.2.2.2.mono HB5.out.size))) (by have h9 : x.2.links.length ≤ sumO lenO l := le_sumO lenO HXM.out; have := HLL.out; unfold bound; omega)).mono ?_
        rintro e_ w7 ⟨bm, rfl, hbm, hb7⟩
        obtain rfl : bm = false := by cases bm with | false => rfl | true => exact absurd (hbm.1 rfl) HMX.out
        refine ⟨_, rfl, ?_⟩
        refine hK.out _ _ ⟨(hb7.cell (World.block_lt_of_cell? _ _ hHeld.1)).trans hHeld.1, (hb7.cell (World.block_lt_of_cell? _ _ hHeld.2.1)).trans hHeld.2.1, (hb7.cell (World.block_lt_of_cell? _ _ hHeld.2.2.1)).trans hHeld.2.2.1, hHeld.2.2.2.trans (hb7.mono hHeld.2.2.2.size)⟩ (fun hHeld => ?_)
        clear hK K
        refine norm_ (a' := ?_) ?_ ?_
        rotate_left
        · show Act.put _ (some 53) _ = _
          simp only [Act.put, sa, sz, ss, i64_w, i32_w]
          rfl
        clear hb7 hbm
        refine pure_ (i := 2) (N := some 54) (v := ?_) (a' := ?_) (bb 24 7) rfl rfl (by kernel_rfl) (fun _ _ _ h => h) (Or.inl ⟨by rfl, ?_⟩) ?_ ?_
        rotate_left
        · intro w'
          go_simp
          with_reducible rfl
        rotate_left
        · simp only [Act.put, sa, sz, ss, i64_w, i32_w]
          rfl
        refine pure_ (i := 3) (N := some 55) (v := ?_) (a' := ?_) (bb 24 15) rfl rfl (by kernel_rfl) (fun _ _ _ h => h) (Or.inl ⟨by rfl, ?_⟩) ?_ ?_
        rotate_left
        · intro w'
          go_simp
          with_reducible rfl
        rotate_left
        · simp only [Act.put, sa, sz, ss, i64_w, i32_w]
          rfl
        refine pure_ (i := 4) (N := some 56) (v := undef) (a' := ?_) (bb 24 31) rfl rfl (by kernel_rfl) (fun _ _ _ h => h) (Or.inr ⟨by rfl, rfl⟩) ?_ ?_
        rotate_left
        · simp only [Act.put, sa, sz, ss, i64_w, i32_w]
          rfl
        refine pure_ (i := 5) (N := some 57) (v := undef) (a' := ?_) (bb 24 63) rfl rfl (by kernel_rfl) (fun _ _ _ h => h) (Or.inr ⟨by rfl, rfl⟩) ?_ ?_
        rotate_left
        · simp only [Act.put, sa, sz, ss, i64_w, i32_w]
          rfl
        refine pure_ (i := 6) (N := some 58) (v := undef) (a' := ?_) (bb 24 127) rfl rfl (by kernel_rfl) (fun _ _ _ h => h) (Or.inr ⟨by rfl, rfl⟩) ?_ ?_
        rotate_left
        · simp only [Act.put, sa, sz, ss, i64_w, i32_w]
          rfl
        refine pure_ (i := 7) (N := some 59) (v := undef) (a' := ?_) (bb 24 255) rfl rfl (by kernel_rfl) (fun _ _ _ h => h) (Or.inr ⟨by rfl, rfl⟩) ?_ ?_
        rotate_left
        · simp only [Act.put, sa, sz, ss, i64_w, i32_w]
          rfl
        refine pure_ (i := 8) (N := some 60) (v := undef) (a' := ?_) (bb 24 511) rfl rfl (by kernel_rfl) (fun _ _ _ h => h) (Or.inr ⟨by rfl, rfl⟩) ?_ ?_
        rotate_left
        · simp only [Act.put, sa, sz, ss, i64_w, i32_w]
          rfl
        refine pure_ (i := 9) (N := some 61) (v := undef) (a' := ?_) (bb 24 1023) rfl rfl (by kernel_rfl) (fun _ _ _ h => h) (Or.inr ⟨by rfl, rfl⟩) ?_ ?_
        rotate_left
        · simp only [Act.put, sa, sz, ss, i64_w, i32_w]
          rfl
        refine pure_ (i := 10) (N := some 62) (v := undef) (a' := ?_) (bb 24 2047) rfl rfl (by kernel_rfl) (fun _ _ _ h => h) (Or.inr ⟨by rfl, rfl⟩) ?_ ?_
        rotate_left
        · simp only [Act.put, sa, sz, ss, i64_w, i32_w]
          rfl
        refine pure_ (i := 11) (N := some 63) (v := undef) (a' := ?_) (bb 24 4095) rfl rfl (by kernel_rfl) (fun _ _ _ h => h) (Or.inr ⟨by rfl, rfl⟩) ?_ ?_
        rotate_left
        · simp only [Act.put, sa, sz, ss, i64_w, i32_w]
          rfl
        refine pure_ (i := 12) (N := some 64) (v := undef) (a' := ?_) (bb 24 8191) rfl rfl (by kernel_rfl) (fun _ _ _ h => h) (Or.inr ⟨by rfl, rfl⟩) ?_ ?_
        rotate_left
        · simp only [Act.put, sa, sz, ss, i64_w, i32_w]
          rfl
        refine pure_ (i := 13) (N := some 65) (v := undef) (a' := ?_) (bb 24 16383) rfl rfl (by kernel_rfl) (fun _ _ _ h => h) (Or.inr ⟨by rfl, rfl⟩) ?_ ?_
        rotate_left
        · simp only [Act.put, sa, sz, ss, i64_w, i32_w]
          rfl
        refine pure_ (i := 14) (N := some 66) (v := undef) (a' := ?_) (bb 24 32767) rfl rfl (by kernel_rfl) (fun _ _ _ h => h) (Or.inr ⟨by rfl, rfl⟩) ?_ ?_
        rotate_left
        · simp only [Act.put, sa, sz, ss, i64_w, i32_w]
          rfl
        refine pure_ (i := 15) (N := some 67) (v := undef) (a' := ?_) (bb 24 65535) rfl rfl (by kernel_rfl) (fun _ _ _ h => h) (Or.inr ⟨by rfl, rfl⟩) ?_ ?_
        rotate_left
        · simp only [Act.put, sa, sz, ss, i64_w, i32_w]
          rfl
        refine pure_ (i := 16) (N := some 68) (v := undef) (a' := ?_) (bb 24 131071) rfl rfl (by kernel_rfl) (fun _ _ _ h => h) (Or.inr ⟨by rfl, rfl⟩) ?_ ?_
        rotate_left
        · simp only [Act.put, sa, sz, ss, i64_w, i32_w]
          rfl
        refine pure_ (i := 17) (N := some 69) (v := ?_) (a' := ?_) (bb 24 262143) rfl rfl (by kernel_rfl) (fun _ _ _ h => h) (Or.inl ⟨by rfl, ?_⟩) ?_ ?_
        rotate_left
        · intro w'
          go_simp
          with_reducible rfl
        rotate_left
        · simp only [Act.put, sa, sz, ss, i64_w, i32_w]
          rfl
        refine pure_ (i := 18) (N := some 70) (v := ?_) (a' := ?_) (bb 24 524287) rfl rfl (by kernel_rfl) (fun _ _ _ h => h) (Or.inl ⟨by rfl, ?_⟩) ?_ ?_
        rotate_left
        · intro w'
          go_simp
          with_reducible rfl
        rotate_left
        · simp only [Act.put, sa, sz, ss, i64_w, i32_w]
          rfl
        refine pure_ (i := 19) (N := some 71) (v := undef) (a' := ?_) (bb 24 1048575) rfl rfl (by kernel_rfl) (fun _ _ _ h => h) (Or.inr ⟨by rfl, rfl⟩) ?_ ?_
        rotate_left
        · simp only [Act.put, sa, sz, ss, i64_w, i32_w]
          rfl
        refine pure_ (i := 20) (N := some 72) (v := undef) (a' := ?_) (bb 24 2097151) rfl rfl (by kernel_rfl) (fun _ _ _ h => h) (Or.inr ⟨by rfl, rfl⟩) ?_ ?_
        rotate_left
        · simp only [Act.put, sa, sz, ss, i64_w, i32_w]
          rfl
        refine pure_ (i := 21) (N := some 73) (v := undef) (a' := ?_) (bb 24 4194303) rfl rfl (by kernel_rfl) (fun _ _ _ h => h) (Or.inr ⟨by rfl, rfl⟩) ?_ ?_
        rotate_left
        · simp only [Act.put, sa, sz, ss, i64_w, i32_w]
          rfl
        refine pure_ (i := 22) (N := some 74) (v := undef) (a' := ?_) (bb 24 8388607) rfl rfl (by kernel_rfl) (fun _ _ _ h => h) (Or.inr ⟨by rfl, rfl⟩) ?_ ?_
        rotate_left
        · simp only [Act.put, sa, sz, ss, i64_w, i32_w]
          rfl
        refine pure_ (i := 23) (N := some 75) (v := ?_) (a' := ?_) (bb 24 16777215) rfl rfl (by kernel_rfl) (fun _ _ _ h => h) (Or.inl ⟨by rfl, ?_⟩) ?_ ?_
        rotate_left
        · intro w'
          go_simp
          with_reducible rfl
        rotate_left
        · simp only [Act.put, sa, sz, ss, i64_w, i32_w]
          rfl
        refine done_ (by kernel_rfl) ?_
        have HBE := Aside0.mk hHeld.2.2.2
        clear hHeld hS d0 d1 d2
        go_wp2
        go_ret2
        exact ld_no HNO.out (HBW5.out.trans (HBE.out.mono HBW5.out.size))
      have HMX := Aside0.mk hmx
      clear hmx
      rcases Nat.eq_zero_or_pos i with hi0 | hi0
      case' inl =>
        have t1 : decide (0 < iv) = false := decide_eq_false (by have := HIV.out; omega)
        have HAS2 : Aside0 (Asc (l.take (i + 1))) := ⟨asc_take HAS.out HX.out (fun p y hp _ => by omega)⟩
        by_cases hnb : next ≤ x.1
        · have r1 : decide (next ≤ x.1) = true := decide_eq_true hnb
          have HNO : Aside0 (¬ LoadP next l) := ⟨fun h => by have := h.below x HXM.out; omega⟩
          clear hnb
          have hS : W5.drew.cell? ⟨xb, 0, none⟩ = some (.int .i64 x.1) ∧ W5.drew.cell? ⟨xb, 1, none⟩ = some (.int .i64 x.2.kind) ∧ W5.drew.cell? ⟨xb, 2, none⟩ = some (.slice Ax x.2.links.length cx) ∧ Below W5.heap.size W5 W5.drew := ⟨d0, d1, d2, below_drew (Below.refl _ _)⟩
          refine start_ (n := 24) (S := fun W' => W'.cell? ⟨xb, 0, none⟩ = some (.int .i64 x.1) ∧ W'.cell? ⟨xb, 1, none⟩ = some (.int .i64 x.2.kind) ∧ W'.cell? ⟨xb, 2, none⟩ = some (.slice Ax x.2.links.length cx) ∧ Below W5.heap.size W5 W') (ds := []) #[false, false, false, false, false, false, false, false, false, false, false, false, false, false, false, false, false, false, false, false, false, false, false, false] (by kernel_rfl) rfl rfl hS (fun hHeld => ?_)
          refine take_ (i := 0) (N := some 52) (v := ?_) (a' := ?_) (bb 24 1) rfl rfl (by kernel_rfl) (fun _ _ _ h => h) (Or.inl ⟨by rfl, ?_⟩) hHeld ?_ ?_
          rotate_left
          · rintro w' ⟨s1_, s2_, s3_, s4_⟩
            go_simp
            with_reducible rfl
          rotate_left
          · simp only [Act.put, sa, sz, ss, i64_w, i32_w]
            rfl
          refine one_ (i := 1) (N := some 53) (bb 24 3) rfl rfl (by kernel_rfl) (by decide) (fun K hK => ?_)
          skip
          refine goes_ Tryz.func51 (by kernel_rfl) rfl #[.agg #[.int .i64 x.1, .int .i64 x.2.kind, .slice Ax x.2.links.length cx]] (by rfl) rfl rfl (by (simp only [List.map_toArray, List.map_cons, List.map_nil]); rfl) ?_
          refine (may_gen _ (lay_below HL.out (HBW5.out.trans (hHeld.2.2.2.mono HBW5.out.size))) x.1 x.2.kind Ax cx x.2.links (HLR.out.below (HB5.out.trans (hHeld.2.2.2.mono HB5.out.size))) (by have h9 : x.2.links.length ≤ sumO lenO l := le_sumO lenO HXM.out; have := HLL.out; unfold bound; omega)).mono ?_
          rintro e_ w7 ⟨bm, rfl, hbm, hb7⟩
          obtain rfl : bm = true := hbm.2 HMX.out
          refine ⟨_, rfl, ?_⟩
          refine hK.out _ _ ⟨(hb7.cell (World.block_lt_of_cell? _ _ hHeld.1)).trans hHeld.1, (hb7.cell (World.block_lt_of_cell? _ _ hHeld.2.1)).trans hHeld.2.1, (hb7.cell (World.block_lt_of_cell? _ _ hHeld.2.2.1)).trans hHeld.2.2.1, hHeld.2.2.2.trans (hb7.mono hHeld.2.2.2.size)⟩ (fun hHeld => ?_)
          clear hK K
          refine norm_ (a' := ?_) ?_ ?_
          rotate_left
          · show Act.put _ (some 53) _ = _
            simp only [Act.put, sa, sz, ss, i64_w, i32_w]
            rfl
          clear hb7 hbm
          refine pure_ (i := 2) (N := some 54) (v := ?_) (a' := ?_) (bb 24 7) rfl rfl (by kernel_rfl) (fun _ _ _ h => h) (Or.inl ⟨by rfl, ?_⟩) ?_ ?_
          rotate_left
          · intro w'
            go_simp
            with_reducible rfl
          rotate_left
          · simp only [Act.put, sa, sz, ss, i64_w, i32_w]
            rfl
          refine pure_ (i := 3) (N := some 55) (v := ?_) (a' := ?_) (bb 24 15) rfl rfl (by kernel_rfl) (fun _ _ _ h => h) (Or.inl ⟨by rfl, ?_⟩) ?_ ?_
          rotate_left
          · intro w'
            go_simp
            with_reducible rfl
          rotate_left
          · simp only [Act.put, sa, sz, ss, i64_w, i32_w]
            rfl
          refine pure_ (i := 4) (N := some 56) (v := ?_) (a' := ?_) (bb 24 31) rfl rfl (by kernel_rfl) (fun _ _ _ h => h) (Or.inl ⟨by rfl, ?_⟩) ?_ ?_
          rotate_left
          · intro w'
            go_simp
            with_reducible rfl
          rotate_left
          · simp only [Act.put, sa, sz, ss, i64_w, i32_w]
            rfl
          refine pure_ (i := 5) (N := some 57) (v := ?_) (a' := ?_) (bb 24 63) rfl rfl (by kernel_rfl) (fun _ _ _ h => h) (Or.inl ⟨by rfl, ?_⟩) ?_ ?_
          rotate_left
          · intro w'
            go_simp
            with_reducible rfl
          rotate_left
          · simp only [Act.put, sa, sz, ss, i64_w, i32_w]
            rfl
          refine pure_ (i := 6) (N := some 58) (v := ?_) (a' := ?_) (bb 24 127) rfl rfl (by kernel_rfl) (fun _ _ _ h => h) (Or.inl ⟨by rfl, ?_⟩) ?_ ?_
          rotate_left
          · intro w'
            go_simp
            with_reducible rfl
          rotate_left
          · simp only [Act.put, sa, sz, ss, i64_w, i32_w]
            rfl
          refine pure_ (i := 7) (N := some 59) (v := undef) (a' := ?_) (bb 24 255) rfl rfl (by kernel_rfl) (fun _ _ _ h => h) (Or.inr ⟨by rfl, rfl⟩) ?_ ?_
          rotate_left
          · simp only [Act.put, sa, sz, ss, i64_w, i32_w]
            rfl
          refine pure_ (i := 8) (N := some 60) (v := undef) (a' := ?_) (bb 24 511) rfl rfl (by kernel_rfl) (fun _ _ _ h => h) (Or.inr ⟨by rfl, rfl⟩) ?_ ?_
          rotate_left
          · simp only [Act.put, sa, sz, ss, i64_w, i32_w]
            rfl
          refine pure_ (i := 9) (N := some 61) (v := undef) (a' := ?_) (bb 24 1023) rfl rfl (by kernel_rfl) (fun _ _ _ h => h) (Or.inr ⟨by rfl, rfl⟩) ?_ ?_
          rotate_left
          · simp only [Act.put, sa, sz, ss, i64_w, i32_w]
            rfl
          refine pure_ (i := 10) (N := some 62) (v := undef) (a' := ?_) (bb 24 2047) rfl rfl (by kernel_rfl) (fun _ _ _ h => h) (Or.inr ⟨by rfl, rfl⟩) ?_ ?_
          rotate_left
          · simp only [Act.put, sa, sz, ss, i64_w, i32_w]
            rfl
          refine pure_ (i := 11) (N := some 63) (v := undef) (a' := ?_) (bb 24 4095) rfl rfl (by kernel_rfl) (fun _ _ _ h => h) (Or.inr ⟨by rfl, rfl⟩) ?_ ?_
          rotate_left
          · simp only [Act.put, sa, sz, ss, i64_w, i32_w]
            rfl
          refine pure_ (i := 12) (N := some 64) (v := undef) (a' := ?_) (bb 24 8191) rfl rfl (by kernel_rfl) (fun _ _ _ h => h) (Or.inr ⟨by rfl, rfl⟩) ?_ ?_
          rotate_left
          · simp only [Act.put, sa, sz, ss, i64_w, i32_w]
            rfl
          refine pure_ (i := 13) (N := some 65) (v := undef) (a' := ?_) (bb 24 16383) rfl rfl (by kernel_rfl) (fun _ _ _ h => h) (Or.inr ⟨by rfl, rfl⟩) ?_ ?_
          rotate_left
          · simp only [Act.put, sa, sz, ss, i64_w, i32_w]
            rfl
          refine pure_ (i := 14) (N := some 66) (v := undef) (a' := ?_) (bb 24 32767) rfl rfl (by kernel_rfl) (fun _ _ _ h => h) (Or.inr ⟨by rfl, rfl⟩) ?_ ?_
          rotate_left
          · simp only [Act.put, sa, sz, ss, i64_w, i32_w]
            rfl
          refine pure_ (i := 15) (N := some 67) (v := undef) (a' := ?_) (bb 24 65535) rfl rfl (by kernel_rfl) (fun _ _ _ h => h) (Or.inr ⟨by rfl, rfl⟩) ?_ ?_
          rotate_left
          · simp only [Act.put, sa, sz, ss, i64_w, i32_w]
            rfl
          refine pure_ (i := 16) (N := some 68) (v := ?_) (a' := ?_) (bb 24 131071) rfl rfl (by kernel_rfl) (fun _ _ _ h => h) (Or.inl ⟨by rfl, ?_⟩) ?_ ?_
          rotate_left
          · intro w'
            go_simp
            with_reducible rfl
          rotate_left
          · simp only [Act.put, sa, sz, ss, i64_w, i32_w]
            rfl
          refine pure_ (i := 17) (N := some 69) (v := ?_) (a' := ?_) (bb 24 262143) rfl rfl (by kernel_rfl) (fun _ _ _ h => h) (Or.inl ⟨by rfl, ?_⟩) ?_ ?_
          rotate_left
          · intro w'
            go_simp
            with_reducible rfl
          rotate_left
          · simp only [Act.put, sa, sz, ss, i64_w, i32_w]
            rfl
          refine pure_ (i := 18) (N := some 70) (v := ?_) (a' := ?_) (bb 24 524287) rfl rfl (by kernel_rfl) (fun _ _ _ h => h) (Or.inl ⟨by rfl, ?_⟩) ?_ ?_
          rotate_left
          · intro w'
            go_simp
            with_reducible rfl
          rotate_left
          · simp only [Act.put, sa, sz, ss, i64_w, i32_w]
            rfl
          refine pure_ (i := 19) (N := some 71) (v := ?_) (a' := ?_) (bb 24 1048575) rfl rfl (by kernel_rfl) (fun _ _ _ h => h) (Or.inl ⟨by rfl, ?_⟩) ?_ ?_
          rotate_left
          · intro w'
            go_simp
            with_reducible rfl
          rotate_left
          · simp only [Act.put, sa, sz, ss, i64_w, i32_w]
            rfl
          refine take_ (i := 20) (N := some 72) (v := ?_) (a' := ?_) (bb 24 2097151) rfl rfl (by kernel_rfl) (fun _ _ _ h => h) (Or.inl ⟨by rfl, ?_⟩) hHeld ?_ ?_
          rotate_left
          · rintro w' ⟨s1_, s2_, s3_, s4_⟩
            go_simp
            with_reducible rfl
          rotate_left
          · simp only [Act.put, sa, sz, ss, i64_w, i32_w]
            rfl
          refine pure_ (i := 21) (N := some 73) (v := ?_) (a' := ?_) (bb 24 4194303) rfl rfl (by kernel_rfl) (fun _ _ _ h => h) (Or.inl ⟨by rfl, ?_⟩) ?_ ?_
          rotate_left
          · intro w'
            go_simp
            with_reducible rfl
          rotate_left
          · simp only [Act.put, sa, sz, ss, i64_w, i32_w]
            rfl
          refine pure_ (i := 22) (N := some 74) (v := ?_) (a' := ?_) (bb 24 8388607) rfl rfl (by kernel_rfl) (fun _ _ _ h => h) (Or.inl ⟨by rfl, ?_⟩) ?_ ?_
          rotate_left
          · intro w'
            go_simp
            with_reducible rfl
          rotate_left
          · simp only [Act.put, sa, sz, ss, i64_w, i32_w]
            rfl
          refine pure_ (i := 23) (N := some 75) (v := ?_) (a' := ?_) (bb 24 16777215) rfl rfl (by kernel_rfl) (fun _ _ _ h => h) (Or.inl ⟨by rfl, ?_⟩) ?_ ?_
          rotate_left
          · intro w'
            go_simp
            with_reducible rfl
          rotate_left
          · simp only [Act.put, sa, sz, ss, i64_w, i32_w]
            rfl
          refine done_ (by kernel_rfl) ?_
          have HBE := Aside0.mk hHeld.2.2.2
          clear hHeld hS d0 d1 d2
          go_wp2
          go_ret2
          exact ld_no HNO.out (HBW5.out.trans (HBE.out.mono HBW5.out.size))
        have r1 : decide (next ≤ x.1) = false := decide_eq_false hnb
        have HNB : Aside0 (x.1 < next) := ⟨by omega⟩
        clear hnb
        have hS : W5.drew.cell? ⟨xb, 0, none⟩ = some (.int .i64 x.1) ∧ W5.drew.cell? ⟨xb, 1, none⟩ = some (.int .i64 x.2.kind) ∧ W5.drew.cell? ⟨xb, 2, none⟩ = some (.slice Ax x.2.links.length cx) ∧ Below W5.heap.size W5 W5.drew := ⟨d0, d1, d2, below_drew (Below.refl _ _)⟩
        refine start_ (n := 24) (S := fun W' => W'.cell? ⟨xb, 0, none⟩ = some (.int .i64 x.1) ∧ W'.cell? ⟨xb, 1, none⟩ = some (.int .i64 x.2.kind) ∧ W'.cell? ⟨xb, 2, none⟩ = some (.slice Ax x.2.links.length cx) ∧ Below W5.heap.size W5 W') (ds := []) #[false, false, false, false, false, false, false, false, false, false, false, false, false, false, false, false, false, false, false, false, false, false, false, false] (by kernel_rfl) rfl rfl hS (fun hHeld => ?_)
        refine take_ (i := 0) (N := some 52) (v := ?_) (a' := ?_) (bb 24 1) rfl rfl (by kernel_rfl) (fun _ _ _ h => h) (Or.inl ⟨by rfl, ?_⟩) hHeld ?_ ?_
        rotate_left
        · rintro w' ⟨s1_, s2_, s3_, s4_⟩
          go_simp
          with_reducible rfl
        rotate_left
        · simp only [Act.put, sa, sz, ss, i64_w, i32_w]
          rfl
        refine one_ (i := 1) (N := some 53) (bb 24 3) rfl rfl (by kernel_rfl) (by decide) (fun K hK => ?_)
        skip
        refine goes_ Tryz.func51 (by kernel_rfl) rfl #[.agg #[.int .i64 x.1, .int .i64 x.2.kind, .slice Ax x.2.links.length cx]] (by rfl) rfl rfl (by (simp only [List.map_toArray, List.map_cons, List.map_nil]); rfl) ?_
        refine (may_gen _ (lay_below HL.out (HBW5.out.trans (hHeld.2.2.2.mono HBW5.out.size))) x.1 x.2.kind Ax cx x.2.links (HLR.out.below (HB5.out.trans (hHeld.2.2.2.mono HB5.out.size))) (by have h9 : x.2.links.length ≤ sumO lenO l := le_sumO lenO HXM.out; have := HLL.out; unfold bound; omega)).mono ?_
        rintro e_ w7 ⟨bm, rfl, hbm, hb7⟩
        obtain rfl : bm = true := hbm.2 HMX.out
        refine ⟨_, rfl, ?_⟩
        refine hK.out _ _ ⟨(hb7.cell (World.block_lt_of_cell? _ _ hHeld.1)).trans hHeld.1, (hb7.cell (World.block_lt_of_cell? _ _ hHeld.2.1)).trans hHeld.2.1, (hb7.cell (World.block_lt_of_cell? _ _ hHeld.2.2.1)).trans hHeld.2.2.1, hHeld.2.2.2.trans (hb7.mono hHeld.2.2.2.size)⟩ (fun hHeld => ?_)
        clear hK K
        refine norm_ (a' := ?_) ?_ ?_
        rotate_left
        · show Act.put _ (some 53) _ = _
          simp only [Act.put, sa, sz, ss, i64_w, i32_w]
          rfl
        clear hb7 hbm
        refine pure_ (i := 2) (N := some 54) (v := ?_) (a' := ?_) (bb 24 7) rfl rfl (by kernel_rfl) (fun _ _ _ h => h) (Or.inl ⟨by rfl, ?_⟩) ?_ ?_
        rotate_left
        · intro w'
          go_simp
          with_reducible rfl
        rotate_left
        · simp only [Act.put, sa, sz, ss, i64_w, i32_w]
          rfl
        refine pure_ (i := 3) (N := some 55) (v := ?_) (a' := ?_) (bb 24 15) rfl rfl (by kernel_rfl) (fun _ _ _ h => h) (Or.inl ⟨by rfl, ?_⟩) ?_ ?_
        rotate_left
        · intro w'
          go_simp
          with_reducible rfl
        rotate_left
        · simp only [Act.put, sa, sz, ss, i64_w, i32_w]
          rfl
        refine pure_ (i := 4) (N := some 56) (v := ?_) (a' := ?_) (bb 24 31) rfl rfl (by kernel_rfl) (fun _ _ _ h => h) (Or.inl ⟨by rfl, ?_⟩) ?_ ?_
        rotate_left
        · intro w'
          go_simp
          with_reducible rfl
        rotate_left
        · simp only [Act.put, sa, sz, ss, i64_w, i32_w]
          rfl
        refine pure_ (i := 5) (N := some 57) (v := ?_) (a' := ?_) (bb 24 63) rfl rfl (by kernel_rfl) (fun _ _ _ h => h) (Or.inl ⟨by rfl, ?_⟩) ?_ ?_
        rotate_left
        · intro w'
          go_simp
          with_reducible rfl
        rotate_left
        · simp only [Act.put, sa, sz, ss, i64_w, i32_w]
          rfl
        refine pure_ (i := 6) (N := some 58) (v := ?_) (a' := ?_) (bb 24 127) rfl rfl (by kernel_rfl) (fun _ _ _ h => h) (Or.inl ⟨by rfl, ?_⟩) ?_ ?_
        rotate_left
        · intro w'
          go_simp
          with_reducible rfl
        rotate_left
        · simp only [Act.put, sa, sz, ss, i64_w, i32_w]
          rfl
        refine pure_ (i := 7) (N := some 59) (v := undef) (a' := ?_) (bb 24 255) rfl rfl (by kernel_rfl) (fun _ _ _ h => h) (Or.inr ⟨by rfl, rfl⟩) ?_ ?_
        rotate_left
        · simp only [Act.put, sa, sz, ss, i64_w, i32_w]
          rfl
        refine pure_ (i := 8) (N := some 60) (v := undef) (a' := ?_) (bb 24 511) rfl rfl (by kernel_rfl) (fun _ _ _ h => h) (Or.inr ⟨by rfl, rfl⟩) ?_ ?_
        rotate_left
        · simp only [Act.put, sa, sz, ss, i64_w, i32_w]
          rfl
        refine pure_ (i := 9) (N := some 61) (v := undef) (a' := ?_) (bb 24 1023) rfl rfl (by kernel_rfl) (fun _ _ _ h => h) (Or.inr ⟨by rfl, rfl⟩) ?_ ?_
        rotate_left
        · simp only [Act.put, sa, sz, ss, i64_w, i32_w]
          rfl
        refine pure_ (i := 10) (N := some 62) (v := undef) (a' := ?_) (bb 24 2047) rfl rfl (by kernel_rfl) (fun _ _ _ h => h) (Or.inr ⟨by rfl, rfl⟩) ?_ ?_
        rotate_left
        · simp only [Act.put, sa, sz, ss, i64_w, i32_w]
          rfl
        refine pure_ (i := 11) (N := some 63) (v := undef) (a' := ?_) (bb 24 4095) rfl rfl (by kernel_rfl) (fun _ _ _ h => h) (Or.inr ⟨by rfl, rfl⟩) ?_ ?_
        rotate_left
        · simp only [Act.put, sa, sz, ss, i64_w, i32_w]
          rfl
        refine pure_ (i := 12) (N := some 64) (v := undef) (a' := ?_) (bb 24 8191) rfl rfl (by kernel_rfl) (fun _ _ _ h => h) (Or.inr ⟨by rfl, rfl⟩) ?_ ?_
        rotate_left
        · simp only [Act.put, sa, sz, ss, i64_w, i32_w]
          rfl
        refine pure_ (i := 13) (N := some 65) (v := undef) (a' := ?_) (bb 24 16383) rfl rfl (by kernel_rfl) (fun _ _ _ h => h) (Or.inr ⟨by rfl, rfl⟩) ?_ ?_
        rotate_left
        · simp only [Act.put, sa, sz, ss, i64_w, i32_w]
          rfl
        refine pure_ (i := 14) (N := some 66) (v := undef) (a' := ?_) (bb 24 32767) rfl rfl (by kernel_rfl) (fun _ _ _ h => h) (Or.inr ⟨by rfl, rfl⟩) ?_ ?_
        rotate_left
        · simp only [Act.put, sa, sz, ss, i64_w, i32_w]
          rfl
        refine pure_ (i := 15) (N := some 67) (v := undef) (a' := ?_) (bb 24 65535) rfl rfl (by kernel_rfl) (fun _ _ _ h => h) (Or.inr ⟨by rfl, rfl⟩) ?_ ?_
        rotate_left
        · simp only [Act.put, sa, sz, ss, i64_w, i32_w]
          rfl
        refine pure_ (i := 16) (N := some 68) (v := ?_) (a' := ?_) (bb 24 131071) rfl rfl (by kernel_rfl) (fun _ _ _ h => h) (Or.inl ⟨by rfl, ?_⟩) ?_ ?_
        rotate_left
        · intro w'
          go_simp
          with_reducible rfl
        rotate_left
        · simp only [Act.put, sa, sz, ss, i64_w, i32_w]
          rfl
        refine pure_ (i := 17) (N := some 69) (v := ?_) (a' := ?_) (bb 24 262143) rfl rfl (by kernel_rfl) (fun _ _ _ h => h) (Or.inl ⟨by rfl, ?_⟩) ?_ ?_
        rotate_left
        · intro w'
          go_simp
          with_reducible rfl
        rotate_left
        · simp only [Act.put, sa, sz, ss, i64_w, i32_w]
          rfl
        refine pure_ (i := 18) (N := some 70) (v := ?_) (a' := ?_) (bb 24 524287) rfl rfl (by kernel_rfl) (fun _ _ _ h => h) (Or.inl ⟨by rfl, ?_⟩) ?_ ?_
        rotate_left
        · intro w'
          go_simp
          with_reducible rfl
        rotate_left
        · simp only [Act.put, sa, sz, ss, i64_w, i32_w]
          rfl
        refine pure_ (i := 19) (N := some 71) (v := ?_) (a' := ?_) (bb 24 1048575) rfl rfl (by kernel_rfl) (fun _ _ _ h => h) (Or.inl ⟨by rfl, ?_⟩) ?_ ?_
        rotate_left
        · intro w'
          go_simp
          with_reducible rfl
        rotate_left
        · simp only [Act.put, sa, sz, ss, i64_w, i32_w]
          rfl
        refine take_ (i := 20) (N := some 72) (v := ?_) (a' := ?_) (bb 24 2097151) rfl rfl (by kernel_rfl) (fun _ _ _ h => h) (Or.inl ⟨by rfl, ?_⟩) hHeld ?_ ?_
        rotate_left
        · rintro w' ⟨s1_, s2_, s3_, s4_⟩
          go_simp
          with_reducible rfl
        rotate_left
        · simp only [Act.put, sa, sz, ss, i64_w, i32_w]
          rfl
        refine pure_ (i := 21) (N := some 73) (v := ?_) (a' := ?_) (bb 24 4194303) rfl rfl (by kernel_rfl) (fun _ _ _ h => h) (Or.inl ⟨by rfl, ?_⟩) ?_ ?_
        rotate_left
        · intro w'
          go_simp
          with_reducible rfl
        rotate_left
        · simp only [Act.put, sa, sz, ss, i64_w, i32_w]
          rfl
        refine pure_ (i := 22) (N := some 74) (v := ?_) (a' := ?_) (bb 24 8388607) rfl rfl (by kernel_rfl) (fun _ _ _ h => h) (Or.inl ⟨by rfl, ?_⟩) ?_ ?_
        rotate_left
        · intro w'
          go_simp
          with_reducible rfl
        rotate_left
        · simp only [Act.put, sa, sz, ss, i64_w, i32_w]
          rfl
        refine pure_ (i := 23) (N := some 75) (v := ?_) (a' := ?_) (bb 24 16777215) rfl rfl (by kernel_rfl) (fun _ _ _ h => h) (Or.inl ⟨by rfl, ?_⟩) ?_ ?_
        rotate_left
        · intro w'
          go_simp
          with_reducible rfl
        rotate_left
        · simp only [Act.put, sa, sz, ss, i64_w, i32_w]
          rfl
        refine done_ (by kernel_rfl) ?_
        have HBE := Aside0.mk hHeld.2.2.2
        clear hHeld hS d0 d1 d2
        clear t1 hi0 r1
        go_upto_region 9 with (fail)
      case' inr =>
        obtain ⟨p, hp⟩ : ∃ p, i = p + 1 := ⟨i - 1, by omega⟩
        obtain ⟨y0, hy0⟩ : ∃ y0, l[p]? = some y0 := ⟨_, List.getElem?_eq_getElem (by have := HLT.out; omega)⟩
        obtain ⟨g0', o0', Ay0, cy0, e0, -, y01, -⟩ := HNW.out.at hy0
        obtain ⟨rfl, rfl⟩ : g0 = g0' ∧ o0 = o0' := by simpa using e0
        have p0 : W5.cell? ⟨g0, o0 + p * 3, none⟩ = some (.int .i64 y0.1) := (HB5.out.cell (World.block_lt_of_cell? _ _ y01)).trans y01
        have HY0 := Aside0.mk hy0
        have HIP := Aside0.mk hp
        have t1 : decide (0 < iv) = true := decide_eq_true (by have := HIV.out; omega)
        have v1 : (iv - 1).toNat = p := by have := HIV.out; omega
        have v2 : (0 : Int) ≤ iv - 1 := by have := HIV.out; omega
        have v3 : (1 : Int) ≤ iv := by omega
        have v4 : iv ≤ (l.length : Int) := by have := HIV.out; have := HLT.out; omega
        have v5 : (iv - 1 < (l.length : Int)) = True := eq_true (by omega)
        have v6 : ((0 : Int) ≤ iv - 1) = True := eq_true v2
        have v7 : ((1 : Int) ≤ iv) = True := eq_true v3
        have v8 : (iv ≤ (l.length : Int)) = True := eq_true v4
        clear hy0 y01 e0 hp
        by_cases hor : x.1 ≤ y0.1
        · have r2 : decide (x.1 ≤ y0.1) = true := decide_eq_true hor
          have HNO : Aside0 (¬ LoadP next l) := ⟨fun h => by
            obtain ⟨h1, e1⟩ := List.getElem?_eq_some_iff.1 HY0.out
            obtain ⟨h2, e2⟩ := List.getElem?_eq_some_iff.1 HX.out
            have := asc_get h.asc (show p < i by have := HIP.out; omega) h2
            rw [e1, e2] at this
            omega⟩
          clear hor
          have hS : W5.drew.cell? ⟨g0, o0 + p * 3, none⟩ = some (.int .i64 y0.1) ∧ W5.drew.cell? ⟨xb, 0, none⟩ = some (.int .i64 x.1) ∧ W5.drew.cell? ⟨xb, 1, none⟩ = some (.int .i64 x.2.kind) ∧ W5.drew.cell? ⟨xb, 2, none⟩ = some (.slice Ax x.2.links.length cx) ∧ Below W5.heap.size W5 W5.drew := ⟨p0, d0, d1, d2, below_drew (Below.refl _ _)⟩
          refine start_ (n := 24) (S := fun W' => W'.cell? ⟨g0, o0 + p * 3, none⟩ = some (.int .i64 y0.1) ∧ W'.cell? ⟨xb, 0, none⟩ = some (.int .i64 x.1) ∧ W'.cell? ⟨xb, 1, none⟩ = some (.int .i64 x.2.kind) ∧ W'.cell? ⟨xb, 2, none⟩ = some (.slice Ax x.2.links.length cx) ∧ Below W5.heap.size W5 W') (ds := []) #[false, false, false, false, false, false, false, false, false, false, false, false, false, false, false, false, false, false, false, false, false, false, false, false] (by kernel_rfl) rfl rfl hS (fun hHeld => ?_)
          refine take_ (i := 0) (N := some 52) (v := ?_) (a' := ?_) (bb 24 1) rfl rfl (by kernel_rfl) (fun _ _ _ h => h) (Or.inl ⟨by rfl, ?_⟩) hHeld ?_ ?_
          rotate_left
          · rintro w' ⟨s0_, s1_, s2_, s3_, s4_⟩
            go_simp
            with_reducible rfl
          rotate_left
          · simp only [Act.put, sa, sz, ss, i64_w, i32_w]
            rfl
          refine one_ (i := 1) (N := some 53) (bb 24 3) rfl rfl (by kernel_rfl) (by decide) (fun K hK => ?_)
          skip
          refine goes_ Tryz.func51 (by kernel_rfl) rfl #[.agg #[.int .i64 x.1, .int .i64 x.2.kind, .slice Ax x.2.links.length cx]] (by rfl) rfl rfl (by (simp only [List.map_toArray, List.map_cons, List.map_nil]); rfl) ?_
          refine (may_gen _ (lay_below HL.out (HBW5.out.trans (hHeld.2.2.2.2.mono HBW5.out.size))) x.1 x.2.kind Ax cx x.2.links (HLR.out.below (HB5.out.trans (hHeld.2.2.2.2.mono HB5.out.size))) (by have h9 : x.2.links.length ≤ sumO lenO l := le_sumO lenO HXM.out; have := HLL.out; unfold bound; omega)).mono ?_
          rintro e_ w7 ⟨bm, rfl, hbm, hb7⟩
          obtain rfl : bm = true := hbm.2 HMX.out
          refine ⟨_, rfl, ?_⟩
          refine hK.out _ _ ⟨(hb7.cell (World.block_lt_of_cell? _ _ hHeld.1)).trans hHeld.1, (hb7.cell (World.block_lt_of_cell? _ _ hHeld.2.1)).trans hHeld.2.1, (hb7.cell (World.block_lt_of_cell? _ _ hHeld.2.2.1)).trans hHeld.2.2.1, (hb7.cell (World.block_lt_of_cell? _ _ hHeld.2.2.2.1)).trans hHeld.2.2.2.1, hHeld.2.2.2.2.trans (hb7.mono hHeld.2.2.2.2.size)⟩ (fun hHeld => ?_)
          clear hK K
          refine norm_ (a' := ?_) ?_ ?_
          rotate_left
          · show Act.put _ (some 53) _ = _
            simp only [Act.put, sa, sz, ss, i64_w, i32_w]
            rfl
          clear hb7 hbm
          refine pure_ (i := 2) (N := some 54) (v := ?_) (a' := ?_) (bb 24 7) rfl rfl (by kernel_rfl) (fun _ _ _ h => h) (Or.inl ⟨by rfl, ?_⟩) ?_ ?_
          rotate_left
          · intro w'
            go_simp
            with_reducible rfl
          rotate_left
          · simp only [Act.put, sa, sz, ss, i64_w, i32_w]
            rfl
          refine pure_ (i := 3) (N := some 55) (v := ?_) (a' := ?_) (bb 24 15) rfl rfl (by kernel_rfl) (fun _ _ _ h => h) (Or.inl ⟨by rfl, ?_⟩) ?_ ?_
          rotate_left
          · intro w'
            go_simp
            with_reducible rfl
          rotate_left
          · simp only [Act.put, sa, sz, ss, i64_w, i32_w]
            rfl
          refine pure_ (i := 4) (N := some 56) (v := ?_) (a' := ?_) (bb 24 31) rfl rfl (by kernel_rfl) (fun _ _ _ h => h) (Or.inl ⟨by rfl, ?_⟩) ?_ ?_
          rotate_left
          · intro w'
            go_simp
            with_reducible rfl
          rotate_left
          · simp only [Act.put, sa, sz, ss, i64_w, i32_w]
            rfl
          refine pure_ (i := 5) (N := some 57) (v := ?_) (a' := ?_) (bb 24 63) rfl rfl (by kernel_rfl) (fun _ _ _ h => h) (Or.inl ⟨by rfl, ?_⟩) ?_ ?_
          rotate_left
          · intro w'
            go_simp
            with_reducible rfl
          rotate_left
          · simp only [Act.put, sa, sz, ss, i64_w, i32_w]
            rfl
          refine pure_ (i := 6) (N := some 58) (v := ?_) (a' := ?_) (bb 24 127) rfl rfl (by kernel_rfl) (fun _ _ _ h => h) (Or.inl ⟨by rfl, ?_⟩) ?_ ?_
          rotate_left
          · intro w'
            go_simp
            with_reducible rfl
          rotate_left
          · simp only [Act.put, sa, sz, ss, i64_w, i32_w]
            rfl
          refine pure_ (i := 7) (N := some 59) (v := ?_) (a' := ?_) (bb 24 255) rfl rfl (by kernel_rfl) (fun _ _ _ h => h) (Or.inl ⟨by rfl, ?_⟩) ?_ ?_
          rotate_left
          · intro w'
            go_simp
            with_reducible rfl
          rotate_left
          · simp only [Act.put, sa, sz, ss, i64_w, i32_w]
            rfl
          refine take_ (i := 8) (N := some 60) (v := ?_) (a' := ?_) (bb 24 511) rfl rfl (by kernel_rfl) (fun _ _ _ h => h) (Or.inl ⟨by rfl, ?_⟩) hHeld ?_ ?_
          rotate_left
          · rintro w' ⟨s0_, s1_, s2_, s3_, s4_⟩
            go_simp
            with_reducible rfl
          rotate_left
          · simp only [Act.put, sa, sz, ss, i64_w, i32_w]
            rfl
          refine pure_ (i := 9) (N := some 61) (v := ?_) (a' := ?_) (bb 24 1023) rfl rfl (by kernel_rfl) (fun _ _ _ h => h) (Or.inl ⟨by rfl, ?_⟩) ?_ ?_
          rotate_left
          · intro w'
            go_simp
            with_reducible rfl
          rotate_left
          · simp only [Act.put, sa, sz, ss, i64_w, i32_w]
            rfl
          refine pure_ (i := 10) (N := some 62) (v := ?_) (a' := ?_) (bb 24 2047) rfl rfl (by kernel_rfl) (fun _ _ _ h => h) (Or.inl ⟨by rfl, ?_⟩) ?_ ?_
          rotate_left
          · intro w'
            go_simp
            with_reducible rfl
          rotate_left
          · simp only [Act.put, sa, sz, ss, i64_w, i32_w]
            rfl
          refine pure_ (i := 11) (N := some 63) (v := ?_) (a' := ?_) (bb 24 4095) rfl rfl (by kernel_rfl) (fun _ _ _ h => h) (Or.inl ⟨by rfl, ?_⟩) ?_ ?_
          rotate_left
          · intro w'
            go_simp
            with_reducible rfl
          rotate_left
          · simp only [Act.put, sa, sz, ss, i64_w, i32_w]
            rfl
          refine pure_ (i := 12) (N := some 64) (v := ?_) (a' := ?_) (bb 24 8191) rfl rfl (by kernel_rfl) (fun _ _ _ h => h) (Or.inl ⟨by rfl, ?_⟩) ?_ ?_
          rotate_left
          · intro w'
            go_simp
            with_reducible rfl
          rotate_left
          · simp only [Act.put, sa, sz, ss, i64_w, i32_w]
            rfl
          refine pure_ (i := 13) (N := some 65) (v := ?_) (a' := ?_) (bb 24 16383) rfl rfl (by kernel_rfl) (fun _ _ _ h => h) (Or.inl ⟨by rfl, ?_⟩) ?_ ?_
          rotate_left
          · intro w'
            go_simp
            with_reducible rfl
          rotate_left
          · simp only [Act.put, sa, sz, ss, i64_w, i32_w]
            rfl
          refine take_ (i := 14) (N := some 66) (v := ?_) (a' := ?_) (bb 24 32767) rfl rfl (by kernel_rfl) (fun _ _ _ h => h) (Or.inl ⟨by rfl, ?_⟩) hHeld ?_ ?_
          rotate_left
          · rintro w' ⟨s0_, s1_, s2_, s3_, s4_⟩
            go_simp
            with_reducible rfl
          rotate_left
          · simp only [Act.put, sa, sz, ss, i64_w, i32_w]
            rfl
          refine pure_ (i := 15) (N := some 67) (v := ?_) (a' := ?_) (bb 24 65535) rfl rfl (by kernel_rfl) (fun _ _ _ h => h) (Or.inl ⟨by rfl, ?_⟩) ?_ ?_
          rotate_left
          · intro w'
            go_simp
            with_reducible rfl
          rotate_left
          · simp only [Act.put, sa, sz, ss, i64_w, i32_w]
            rfl
          refine pure_ (i := 16) (N := some 68) (v := ?_) (a' := ?_) (bb 24 131071) rfl rfl (by kernel_rfl) (fun _ _ _ h => h) (Or.inl ⟨by rfl, ?_⟩) ?_ ?_
          rotate_left
          · intro w'
            go_simp
            with_reducible rfl
          rotate_left
          · simp only [Act.put, sa, sz, ss, i64_w, i32_w]
            rfl
          refine pure_ (i := 17) (N := some 69) (v := ?_) (a' := ?_) (bb 24 262143) rfl rfl (by kernel_rfl) (fun _ _ _ h => h) (Or.inl ⟨by rfl, ?_⟩) ?_ ?_
          rotate_left
          · intro w'
            go_simp
            with_reducible rfl
          rotate_left
          · simp only [Act.put, sa, sz, ss, i64_w, i32_w]
            rfl
          refine pure_ (i := 18) (N := some 70) (v := ?_) (a' := ?_) (bb 24 524287) rfl rfl (by kernel_rfl) (fun _ _ _ h => h) (Or.inl ⟨by rfl, ?_⟩) ?_ ?_
          rotate_left
          · intro w'
            go_simp
            with_reducible rfl
          rotate_left
          · simp only [Act.put, sa, sz, ss, i64_w, i32_w]
            rfl
          refine pure_ (i := 19) (N := some 71) (v := undef) (a' := ?_) (bb 24 1048575) rfl rfl (by kernel_rfl) (fun _ _ _ h => h) (Or.inr ⟨by rfl, rfl⟩) ?_ ?_
          rotate_left
          · simp only [Act.put, sa, sz, ss, i64_w, i32_w]
            rfl
          refine pure_ (i := 20) (N := some 72) (v := undef) (a' := ?_) (bb 24 2097151) rfl rfl (by kernel_rfl) (fun _ _ _ h => h) (Or.inr ⟨by rfl, rfl⟩) ?_ ?_
          rotate_left
          · simp only [Act.put, sa, sz, ss, i64_w, i32_w]
            rfl
          refine pure_ (i := 21) (N := some 73) (v := undef) (a' := ?_) (bb 24 4194303) rfl rfl (by kernel_rfl) (fun _ _ _ h => h) (Or.inr ⟨by rfl, rfl⟩) ?_ ?_
          rotate_left
          · simp only [Act.put, sa, sz, ss, i64_w, i32_w]
            rfl
          refine pure_ (i := 22) (N := some 74) (v := undef) (a' := ?_) (bb 24 8388607) rfl rfl (by kernel_rfl) (fun _ _ _ h => h) (Or.inr ⟨by rfl, rfl⟩) ?_ ?_
          rotate_left
          · simp only [Act.put, sa, sz, ss, i64_w, i32_w]
            rfl
          refine pure_ (i := 23) (N := some 75) (v := ?_) (a' := ?_) (bb 24 16777215) rfl rfl (by kernel_rfl) (fun _ _ _ h => h) (Or.inl ⟨by rfl, ?_⟩) ?_ ?_
          rotate_left
          · intro w'
            go_simp
            with_reducible rfl
          rotate_left
          · simp only [Act.put, sa, sz, ss, i64_w, i32_w]
            rfl
          refine done_ (by kernel_rfl) ?_
          have HBE := Aside0.mk hHeld.2.2.2.2
          clear hHeld hS d0 d1 d2
          go_wp2
          go_ret2
          exact ld_no HNO.out (HBW5.out.trans (HBE.out.mono HBW5.out.size))
        have r2 : decide (x.1 ≤ y0.1) = false := decide_eq_false hor
        have HAS2 : Aside0 (Asc (l.take (i + 1))) := ⟨asc_take HAS.out HX.out (fun p' y' hp' hy' => by
          have e1 : p' = p := by have := HIP.out; omega
          rw [e1, HY0.out] at hy'
          rw [← Option.some.inj hy']
          omega)⟩
        clear hor
        by_cases hnb : next ≤ x.1
        · have r1 : decide (next ≤ x.1) = true := decide_eq_true hnb
          have HNO : Aside0 (¬ LoadP next l) := ⟨fun h => by have := h.below x HXM.out; omega⟩
          clear hnb
          have hS : W5.drew.cell? ⟨g0, o0 + p * 3, none⟩ = some (.int .i64 y0.1) ∧ W5.drew.cell? ⟨xb, 0, none⟩ = some (.int .i64 x.1) ∧ W5.drew.cell? ⟨xb, 1, none⟩ = some (.int .i64 x.2.kind) ∧ W5.drew.cell? ⟨xb, 2, none⟩ = some (.slice Ax x.2.links.length cx) ∧ Below W5.heap.size W5 W5.drew := ⟨p0, d0, d1, d2, below_drew (Below.refl _ _)⟩
          refine start_ (n := 24) (S := fun W' => W'.cell? ⟨g0, o0 + p * 3, none⟩ = some (.int .i64 y0.1) ∧ W'.cell? ⟨xb, 0, none⟩ = some (.int .i64 x.1) ∧ W'.cell? ⟨xb, 1, none⟩ = some (.int .i64 x.2.kind) ∧ W'.cell? ⟨xb, 2, none⟩ = some (.slice Ax x.2.links.length cx) ∧ Below W5.heap.size W5 W') (ds := []) #[false, false, false, false, false, false, false, false, false, false, false, false, false, false, false, false, false, false, false, false, false, false, false, false] (by kernel_rfl) rfl rfl hS (fun hHeld => ?_)
          refine take_ (i := 0) (N := some 52) (v := ?_) (a' := ?_) (bb 24 1) rfl rfl (by kernel_rfl) (fun _ _ _ h => h) (Or.inl ⟨by rfl, ?_⟩) hHeld ?_ ?_
          rotate_left
          · rintro w' ⟨s0_, s1_, s2_, s3_, s4_⟩
            go_simp
            with_reducible rfl
          rotate_left
          · simp only [Act.put, sa, sz, ss, i64_w, i32_w]
            rfl
          refine one_ (i := 1) (N := some 53) (bb 24 3) rfl rfl (by kernel_rfl) (by decide) (fun K hK => ?_)
          skip
          refine goes_ Tryz.func51 (by kernel_rfl) rfl #[.agg #[.int .i64 x.1, .int .i64 x.2.kind, .slice Ax x.2.links.length cx]] (by rfl) rfl rfl (by (simp only [List.map_toArray, List.map_cons, List.map_nil]); rfl) ?_
          refine (may_gen _ (lay_below HL.out (HBW5.out.trans (hHeld.2.2.2.2.mono HBW5.out.size))) x.1 x.2.kind Ax cx x.2.links (HLR.out.below (HB5.out.trans (hHeld.2.2.2.2.mono HB5.out.size))) (by have h9 : x.2.links.length ≤ sumO lenO l := le_sumO lenO HXM.out; have := HLL.out; unfold bound; omega)).mono ?_
          rintro e_ w7 ⟨bm, rfl, hbm, hb7⟩
          obtain rfl : bm = true := hbm.2 HMX.out
          refine ⟨_, rfl, ?_⟩
          refine hK.out _ _ ⟨(hb7.cell (World.block_lt_of_cell? _ _ hHeld.1)).trans hHeld.1, (hb7.cell (World.block_lt_of_cell? _ _ hHeld.2.1)).trans hHeld.2.1, (hb7.cell (World.block_lt_of_cell? _ _ hHeld.2.2.1)).trans hHeld.2.2.1, (hb7.cell (World.block_lt_of_cell? _ _ hHeld.2.2.2.1)).trans hHeld.2.2.2.1, hHeld.2.2.2.2.trans (hb7.mono hHeld.2.2.2.2.size)⟩ (fun hHeld => ?_)
          clear hK K
          refine norm_ (a' := ?_) ?_ ?_
          rotate_left
          · show Act.put _ (some 53) _ = _
            simp only [Act.put, sa, sz, ss, i64_w, i32_w]
            rfl
          clear hb7 hbm
          refine pure_ (i := 2) (N := some 54) (v := ?_) (a' := ?_) (bb 24 7) rfl rfl (by kernel_rfl) (fun _ _ _ h => h) (Or.inl ⟨by rfl, ?_⟩) ?_ ?_
          rotate_left
          · intro w'
            go_simp
            with_reducible rfl
          rotate_left
          · simp only [Act.put, sa, sz, ss, i64_w, i32_w]
            rfl
          refine pure_ (i := 3) (N := some 55) (v := ?_) (a' := ?_) (bb 24 15) rfl rfl (by kernel_rfl) (fun _ _ _ h => h) (Or.inl ⟨by rfl, ?_⟩) ?_ ?_
          rotate_left
          · intro w'
            go_simp
            with_reducible rfl
          rotate_left
          · simp only [Act.put, sa, sz, ss, i64_w, i32_w]
            rfl
          refine pure_ (i := 4) (N := some 56) (v := ?_) (a' := ?_) (bb 24 31) rfl rfl (by kernel_rfl) (fun _ _ _ h => h) (Or.inl ⟨by rfl, ?_⟩) ?_ ?_
          rotate_left
          · intro w'
            go_simp
            with_reducible rfl
          rotate_left
          · simp only [Act.put, sa, sz, ss, i64_w, i32_w]
            rfl
          refine pure_ (i := 5) (N := some 57) (v := ?_) (a' := ?_) (bb 24 63) rfl rfl (by kernel_rfl) (fun _ _ _ h => h) (Or.inl ⟨by rfl, ?_⟩) ?_ ?_
          rotate_left
          · intro w'
            go_simp
            with_reducible rfl
          rotate_left
          · simp only [Act.put, sa, sz, ss, i64_w, i32_w]
            rfl
          refine pure_ (i := 6) (N := some 58) (v := ?_) (a' := ?_) (bb 24 127) rfl rfl (by kernel_rfl) (fun _ _ _ h => h) (Or.inl ⟨by rfl, ?_⟩) ?_ ?_
          rotate_left
          · intro w'
            go_simp
            with_reducible rfl
          rotate_left
          · simp only [Act.put, sa, sz, ss, i64_w, i32_w]
            rfl
          refine pure_ (i := 7) (N := some 59) (v := ?_) (a' := ?_) (bb 24 255) rfl rfl (by kernel_rfl) (fun _ _ _ h => h) (Or.inl ⟨by rfl, ?_⟩) ?_ ?_
          rotate_left
          · intro w'
            go_simp
            with_reducible rfl
          rotate_left
          · simp only [Act.put, sa, sz, ss, i64_w, i32_w]
            rfl
          refine take_ (i := 8) (N := some 60) (v := ?_) (a' := ?_) (bb 24 511) rfl rfl (by kernel_rfl) (fun _ _ _ h => h) (Or.inl ⟨by rfl, ?_⟩) hHeld ?_ ?_
          rotate_left
          · rintro w' ⟨s0_, s1_, s2_, s3_, s4_⟩
            go_simp
            with_reducible rfl
          rotate_left
          · simp only [Act.put, sa, sz, ss, i64_w, i32_w]
            rfl
          refine pure_ (i := 9) (N := some 61) (v := ?_) (a' := ?_) (bb 24 1023) rfl rfl (by kernel_rfl) (fun _ _ _ h => h) (Or.inl ⟨by rfl, ?_⟩) ?_ ?_
          rotate_left
          · intro w'
            go_simp
            with_reducible rfl
          rotate_left
          · simp only [Act.put, sa, sz, ss, i64_w, i32_w]
            rfl
          refine pure_ (i := 10) (N := some 62) (v := ?_) (a' := ?_) (bb 24 2047) rfl rfl (by kernel_rfl) (fun _ _ _ h => h) (Or.inl ⟨by rfl, ?_⟩) ?_ ?_
          rotate_left
          · intro w'
            go_simp
            with_reducible rfl
          rotate_left
          · simp only [Act.put, sa, sz, ss, i64_w, i32_w]
            rfl
          refine pure_ (i := 11) (N := some 63) (v := ?_) (a' := ?_) (bb 24 4095) rfl rfl (by kernel_rfl) (fun _ _ _ h => h) (Or.inl ⟨by rfl, ?_⟩) ?_ ?_
          rotate_left
          · intro w'
            go_simp
            with_reducible rfl
          rotate_left
          · simp only [Act.put, sa, sz, ss, i64_w, i32_w]
            rfl
          refine pure_ (i := 12) (N := some 64) (v := ?_) (a' := ?_) (bb 24 8191) rfl rfl (by kernel_rfl) (fun _ _ _ h => h) (Or.inl ⟨by rfl, ?_⟩) ?_ ?_
          rotate_left
          · intro w'
            go_simp
            with_reducible rfl
          rotate_left
          · simp only [Act.put, sa, sz, ss, i64_w, i32_w]
            rfl
          refine pure_ (i := 13) (N := some 65) (v := ?_) (a' := ?_) (bb 24 16383) rfl rfl (by kernel_rfl) (fun _ _ _ h => h) (Or.inl ⟨by rfl, ?_⟩) ?_ ?_
          rotate_left
          · intro w'
            go_simp
            with_reducible rfl
          rotate_left
          · simp only [Act.put, sa, sz, ss, i64_w, i32_w]
            rfl
          refine take_ (i := 14) (N := some 66) (v := ?_) (a' := ?_) (bb 24 32767) rfl rfl (by kernel_rfl) (fun _ _ _ h => h) (Or.inl ⟨by rfl, ?_⟩) hHeld ?_ ?_
          rotate_left
          · rintro w' ⟨s0_, s1_, s2_, s3_, s4_⟩
            go_simp
            with_reducible rfl
          rotate_left
          · simp only [Act.put, sa, sz, ss, i64_w, i32_w]
            rfl
          refine pure_ (i := 15) (N := some 67) (v := ?_) (a' := ?_) (bb 24 65535) rfl rfl (by kernel_rfl) (fun _ _ _ h => h) (Or.inl ⟨by rfl, ?_⟩) ?_ ?_
          rotate_left
          · intro w'
            go_simp
            with_reducible rfl
          rotate_left
          · simp only [Act.put, sa, sz, ss, i64_w, i32_w]
            rfl
          refine pure_ (i := 16) (N := some 68) (v := ?_) (a' := ?_) (bb 24 131071) rfl rfl (by kernel_rfl) (fun _ _ _ h => h) (Or.inl ⟨by rfl, ?_⟩) ?_ ?_
          rotate_left
          · intro w'
            go_simp
            with_reducible rfl
          rotate_left
          · simp only [Act.put, sa, sz, ss, i64_w, i32_w]
            rfl
          refine pure_ (i := 17) (N := some 69) (v := ?_) (a' := ?_) (bb 24 262143) rfl rfl (by kernel_rfl) (fun _ _ _ h => h) (Or.inl ⟨by rfl, ?_⟩) ?_ ?_
          rotate_left
          · intro w'
            go_simp
            with_reducible rfl
          rotate_left
          · simp only [Act.put, sa, sz, ss, i64_w, i32_w]
            rfl
          refine pure_ (i := 18) (N := some 70) (v := ?_) (a' := ?_) (bb 24 524287) rfl rfl (by kernel_rfl) (fun _ _ _ h => h) (Or.inl ⟨by rfl, ?_⟩) ?_ ?_
          rotate_left
          · intro w'
            go_simp
            with_reducible rfl
          rotate_left
          · simp only [Act.put, sa, sz, ss, i64_w, i32_w]
            rfl
          refine pure_ (i := 19) (N := some 71) (v := ?_) (a' := ?_) (bb 24 1048575) rfl rfl (by kernel_rfl) (fun _ _ _ h => h) (Or.inl ⟨by rfl, ?_⟩) ?_ ?_
          rotate_left
          · intro w'
            go_simp
            with_reducible rfl
          rotate_left
          · simp only [Act.put, sa, sz, ss, i64_w, i32_w]
            rfl
          refine take_ (i := 20) (N := some 72) (v := ?_) (a' := ?_) (bb 24 2097151) rfl rfl (by kernel_rfl) (fun _ _ _ h => h) (Or.inl ⟨by rfl, ?_⟩) hHeld ?_ ?_
          rotate_left
          · rintro w' ⟨s0_, s1_, s2_, s3_, s4_⟩
            go_simp
            with_reducible rfl
          rotate_left
          · simp only [Act.put, sa, sz, ss, i64_w, i32_w]
            rfl
          refine pure_ (i := 21) (N := some 73) (v := ?_) (a' := ?_) (bb 24 4194303) rfl rfl (by kernel_rfl) (fun _ _ _ h => h) (Or.inl ⟨by rfl, ?_⟩) ?_ ?_
          rotate_left
          · intro w'
            go_simp
            with_reducible rfl
          rotate_left
          · simp only [Act.put, sa, sz, ss, i64_w, i32_w]
            rfl
          refine pure_ (i := 22) (N := some 74) (v := ?_) (a' := ?_) (bb 24 8388607) rfl rfl (by kernel_rfl) (fun _ _ _ h => h) (Or.inl ⟨by rfl, ?_⟩) ?_ ?_
          rotate_left
          · intro w'
            go_simp
            with_reducible rfl
          rotate_left
          · simp only [Act.put, sa, sz, ss, i64_w, i32_w]
            rfl
          refine pure_ (i := 23) (N := some 75) (v := ?_) (a' := ?_) (bb 24 16777215) rfl rfl (by kernel_rfl) (fun _ _ _ h => h) (Or.inl ⟨by rfl, ?_⟩) ?_ ?_
          rotate_left
          · intro w'
            go_simp
            with_reducible rfl
          rotate_left
          · simp only [Act.put, sa, sz, ss, i64_w, i32_w]
            rfl
          refine done_ (by kernel_rfl) ?_
          have HBE := Aside0.mk hHeld.2.2.2.2
          clear hHeld hS d0 d1 d2
          go_wp2
          go_ret2
          exact ld_no HNO.out (HBW5.out.trans (HBE.out.mono HBW5.out.size))
        have r1 : decide (next ≤ x.1) = false := decide_eq_false hnb
        have HNB : Aside0 (x.1 < next) := ⟨by omega⟩
        clear hnb
        have hS : W5.drew.cell? ⟨g0, o0 + p * 3, none⟩ = some (.int .i64 y0.1) ∧ W5.drew.cell? ⟨xb, 0, none⟩ = some (.int .i64 x.1) ∧ W5.drew.cell? ⟨xb, 1, none⟩ = some (.int .i64 x.2.kind) ∧ W5.drew.cell? ⟨xb, 2, none⟩ = some (.slice Ax x.2.links.length cx) ∧ Below W5.heap.size W5 W5.drew := ⟨p0, d0, d1, d2, below_drew (Below.refl _ _)⟩
        refine start_ (n := 24) (S := fun W' => W'.cell? ⟨g0, o0 + p * 3, none⟩ = some (.int .i64 y0.1) ∧ W'.cell? ⟨xb, 0, none⟩ = some (.int .i64 x.1) ∧ W'.cell? ⟨xb, 1, none⟩ = some (.int .i64 x.2.kind) ∧ W'.cell? ⟨xb, 2, none⟩ = some (.slice Ax x.2.links.length cx) ∧ Below W5.heap.size W5 W') (ds := []) #[false, false, false, false, false, false, false, false, false, false, false, false, false, false, false, false, false, false, false, false, false, false, false, false] (by kernel_rfl) rfl rfl hS (fun hHeld => ?_)
        refine take_ (i := 0) (N := some 52) (v := ?_) (a' := ?_) (bb 24 1) rfl rfl (by kernel_rfl) (fun _ _ _ h => h) (Or.inl ⟨by rfl, ?_⟩) hHeld ?_ ?_
        rotate_left
        · rintro w' ⟨s0_, s1_, s2_, s3_, s4_⟩
          go_simp
          with_reducible rfl
        rotate_left
        · simp only [Act.put, sa, sz, ss, i64_w, i32_w]
          rfl
        refine one_ (i := 1) (N := some 53) (bb 24 3) rfl rfl (by kernel_rfl) (by decide) (fun K hK => ?_)
        skip
        refine goes_ Tryz.func51 (by kernel_rfl) rfl #[.agg #[.int .i64 x.1, .int .i64 x.2.kind, .slice Ax x.2.links.length cx]] (by rfl) rfl rfl (by (simp only [List.map_toArray, List.map_cons, List.map_nil]); rfl) ?_
        refine (may_gen _ (lay_below HL.out (HBW5.out.trans (hHeld.2.2.2.2.mono HBW5.out.size))) x.1 x.2.kind Ax cx x.2.links (HLR.out.below (HB5.out.trans (hHeld.2.2.2.2.mono HB5.out.size))) (by have h9 : x.2.links.length ≤ sumO lenO l := le_sumO lenO HXM.out; have := HLL.out; unfold bound; omega)).mono ?_
        rintro e_ w7 ⟨bm, rfl, hbm, hb7⟩
        obtain rfl : bm = true := hbm.2 HMX.out
        refine ⟨_, rfl, ?_⟩
        refine hK.out _ _ ⟨(hb7.cell (World.block_lt_of_cell? _ _ hHeld.1)).trans hHeld.1, (hb7.cell (World.block_lt_of_cell? _ _ hHeld.2.1)).trans hHeld.2.1, (hb7.cell (World.block_lt_of_cell? _ _ hHeld.2.2.1)).trans hHeld.2.2.1, (hb7.cell (World.block_lt_of_cell? _ _ hHeld.2.2.2.1)).trans hHeld.2.2.2.1, hHeld.2.2.2.2.trans (hb7.mono hHeld.2.2.2.2.size)⟩ (fun hHeld => ?_)
        clear hK K
        refine norm_ (a' := ?_) ?_ ?_
        rotate_left
        · show Act.put _ (some 53) _ = _
          simp only [Act.put, sa, sz, ss, i64_w, i32_w]
          rfl
        clear hb7 hbm
        refine pure_ (i := 2) (N := some 54) (v := ?_) (a' := ?_) (bb 24 7) rfl rfl (by kernel_rfl) (fun _ _ _ h => h) (Or.inl ⟨by rfl, ?_⟩) ?_ ?_
        rotate_left
        · intro w'
          go_simp
          with_reducible rfl
        rotate_left
        · simp only [Act.put, sa, sz, ss, i64_w, i32_w]
          rfl
        refine pure_ (i := 3) (N := some 55) (v := ?_) (a' := ?_) (bb 24 15) rfl rfl (by kernel_rfl) (fun _ _ _ h => h) (Or.inl ⟨by rfl, ?_⟩) ?_ ?_
        rotate_left
        · intro w'
          go_simp
          with_reducible rfl
        rotate_left
        · simp only [Act.put, sa, sz, ss, i64_w, i32_w]
          rfl
        refine pure_ (i := 4) (N := some 56) (v := ?_) (a' := ?_) (bb 24 31) rfl rfl (by kernel_rfl) (fun _ _ _ h => h) (Or.inl ⟨by rfl, ?_⟩) ?_ ?_
        rotate_left
        · intro w'
          go_simp
          with_reducible rfl
        rotate_left
        · simp only [Act.put, sa, sz, ss, i64_w, i32_w]
          rfl
        refine pure_ (i := 5) (N := some 57) (v := ?_) (a' := ?_) (bb 24 63) rfl rfl (by kernel_rfl) (fun _ _ _ h => h) (Or.inl ⟨by rfl, ?_⟩) ?_ ?_
        rotate_left
        · intro w'
          go_simp
          with_reducible rfl
        rotate_left
        · simp only [Act.put, sa, sz, ss, i64_w, i32_w]
          rfl
        refine pure_ (i := 6) (N := some 58) (v := ?_) (a' := ?_) (bb 24 127) rfl rfl (by kernel_rfl) (fun _ _ _ h => h) (Or.inl ⟨by rfl, ?_⟩) ?_ ?_
        rotate_left
        · intro w'
          go_simp
          with_reducible rfl
        rotate_left
        · simp only [Act.put, sa, sz, ss, i64_w, i32_w]
          rfl
        refine pure_ (i := 7) (N := some 59) (v := ?_) (a' := ?_) (bb 24 255) rfl rfl (by kernel_rfl) (fun _ _ _ h => h) (Or.inl ⟨by rfl, ?_⟩) ?_ ?_
        rotate_left
        · intro w'
          go_simp
          with_reducible rfl
        rotate_left
        · simp only [Act.put, sa, sz, ss, i64_w, i32_w]
          rfl
        refine take_ (i := 8) (N := some 60) (v := ?_) (a' := ?_) (bb 24 511) rfl rfl (by kernel_rfl) (fun _ _ _ h => h) (Or.inl ⟨by rfl, ?_⟩) hHeld ?_ ?_
        rotate_left
        · rintro w' ⟨s0_, s1_, s2_, s3_, s4_⟩
          go_simp
          with_reducible rfl
        rotate_left
        · simp only [Act.put, sa, sz, ss, i64_w, i32_w]
          rfl
        refine pure_ (i := 9) (N := some 61) (v := ?_) (a' := ?_) (bb 24 1023) rfl rfl (by kernel_rfl) (fun _ _ _ h => h) (Or.inl ⟨by rfl, ?_⟩) ?_ ?_
        rotate_left
        · intro w'
          go_simp
          with_reducible rfl
        rotate_left
        · simp only [Act.put, sa, sz, ss, i64_w, i32_w]
          rfl
        refine pure_ (i := 10) (N := some 62) (v := ?_) (a' := ?_) (bb 24 2047) rfl rfl (by kernel_rfl) (fun _ _ _ h => h) (Or.inl ⟨by rfl, ?_⟩) ?_ ?_
        rotate_left
        · intro w'
          go_simp
          with_reducible rfl
        rotate_left
        · simp only [Act.put, sa, sz, ss, i64_w, i32_w]
          rfl
        refine pure_ (i := 11) (N := some 63) (v := ?_) (a' := ?_) (bb 24 4095) rfl rfl (by kernel_rfl) (fun _ _ _ h => h) (Or.inl ⟨by rfl, ?_⟩) ?_ ?_
        rotate_left
        · intro w'
          go_simp
          with_reducible rfl
        rotate_left
        · simp only [Act.put, sa, sz, ss, i64_w, i32_w]
          rfl
        refine pure_ (i := 12) (N := some 64) (v := ?_) (a' := ?_) (bb 24 8191) rfl rfl (by kernel_rfl) (fun _ _ _ h => h) (Or.inl ⟨by rfl, ?_⟩) ?_ ?_
        rotate_left
        · intro w'
          go_simp
          with_reducible rfl
        rotate_left
        · simp only [Act.put, sa, sz, ss, i64_w, i32_w]
          rfl
        refine pure_ (i := 13) (N := some 65) (v := ?_) (a' := ?_) (bb 24 16383) rfl rfl (by kernel_rfl) (fun _ _ _ h => h) (Or.inl ⟨by rfl, ?_⟩) ?_ ?_
        rotate_left
        · intro w'
          go_simp
          with_reducible rfl
        rotate_left
        · simp only [Act.put, sa, sz, ss, i64_w, i32_w]
          rfl
        refine take_ (i := 14) (N := some 66) (v := ?_) (a' := ?_) (bb 24 32767) rfl rfl (by kernel_rfl) (fun _ _ _ h => h) (Or.inl ⟨by rfl, ?_⟩) hHeld ?_ ?_
        rotate_left
        · rintro w' ⟨s0_, s1_, s2_, s3_, s4_⟩
          go_simp
          with_reducible rfl
        rotate_left
        · simp only [Act.put, sa, sz, ss, i64_w, i32_w]
          rfl
        refine pure_ (i := 15) (N := some 67) (v := ?_) (a' := ?_) (bb 24 65535) rfl rfl (by kernel_rfl) (fun _ _ _ h => h) (Or.inl ⟨by rfl, ?_⟩) ?_ ?_
        rotate_left
        · intro w'
          go_simp
          with_reducible rfl
        rotate_left
        · simp only [Act.put, sa, sz, ss, i64_w, i32_w]
          rfl
        refine pure_ (i := 16) (N := some 68) (v := ?_) (a' := ?_) (bb 24 131071) rfl rfl (by kernel_rfl) (fun _ _ _ h => h) (Or.inl ⟨by rfl, ?_⟩) ?_ ?_
        rotate_left
        · intro w'
          go_simp
          with_reducible rfl
        rotate_left
        · simp only [Act.put, sa, sz, ss, i64_w, i32_w]
          rfl
        refine pure_ (i := 17) (N := some 69) (v := ?_) (a' := ?_) (bb 24 262143) rfl rfl (by kernel_rfl) (fun _ _ _ h => h) (Or.inl ⟨by rfl, ?_⟩) ?_ ?_
        rotate_left
        · intro w'
          go_simp
          with_reducible rfl
        rotate_left
        · simp only [Act.put, sa, sz, ss, i64_w, i32_w]
          rfl
        refine pure_ (i := 18) (N := some 70) (v := ?_) (a' := ?_) (bb 24 524287) rfl rfl (by kernel_rfl) (fun _ _ _ h => h) (Or.inl ⟨by rfl, ?_⟩) ?_ ?_
        rotate_left
        · intro w'
          go_simp
          with_reducible rfl
        rotate_left
        · simp only [Act.put, sa, sz, ss, i64_w, i32_w]
          rfl
        refine pure_ (i := 19) (N := some 71) (v := ?_) (a' := ?_) (bb 24 1048575) rfl rfl (by kernel_rfl) (fun _ _ _ h => h) (Or.inl ⟨by rfl, ?_⟩) ?_ ?_
        rotate_left
        · intro w'
          go_simp
          with_reducible rfl
        rotate_left
        · simp only [Act.put, sa, sz, ss, i64_w, i32_w]
          rfl
        refine take_ (i := 20) (N := some 72) (v := ?_) (a' := ?_) (bb 24 2097151) rfl rfl (by kernel_rfl) (fun _ _ _ h => h) (Or.inl ⟨by rfl, ?_⟩) hHeld ?_ ?_
        rotate_left
        · rintro w' ⟨s0_, s1_, s2_, s3_, s4_⟩
          go_simp
          with_reducible rfl
        rotate_left
        · simp only [Act.put, sa, sz, ss, i64_w, i32_w]
          rfl
        refine pure_ (i := 21) (N := some 73) (v := ?_) (a' := ?_) (bb 24 4194303) rfl rfl (by kernel_rfl) (fun _ _ _ h => h) (Or.inl ⟨by rfl, ?_⟩) ?_ ?_
        rotate_left
        · intro w'
          go_simp
          with_reducible rfl
        rotate_left
        · simp only [Act.put, sa, sz, ss, i64_w, i32_w]
          rfl
        refine pure_ (i := 22) (N := some 74) (v := ?_) (a' := ?_) (bb 24 8388607) rfl rfl (by kernel_rfl) (fun _ _ _ h => h) (Or.inl ⟨by rfl, ?_⟩) ?_ ?_
        rotate_left
        · intro w'
          go_simp
          with_reducible rfl
        rotate_left
        · simp only [Act.put, sa, sz, ss, i64_w, i32_w]
          rfl
        refine pure_ (i := 23) (N := some 75) (v := ?_) (a' := ?_) (bb 24 16777215) rfl rfl (by kernel_rfl) (fun _ _ _ h => h) (Or.inl ⟨by rfl, ?_⟩) ?_ ?_
        rotate_left
        · intro w'
          go_simp
          with_reducible rfl
        rotate_left
        · simp only [Act.put, sa, sz, ss, i64_w, i32_w]
          rfl
        refine done_ (by kernel_rfl) ?_
        have HBE := Aside0.mk hHeld.2.2.2.2
        clear hHeld hS d0 d1 d2
        clear t1 hi0 r1 r2 v1 v2 v3 v4 v5 v6 v7 v8 p0
        go_upto_region 9 with (fail)
      all_goals
        have hx7 : w7.heap[xb]? = some (.cells #[.int .i64 x.1, .int .i64 x.2.kind, .slice Ax x.2.links.length cx] 50 (0, 0)) := (HBE.out.block _ (blk_lt HX5.out)).trans HX5.out
        have hbr7 : Below wr.heap.size wr w7 := HB5.out.trans (HBE.out.mono HB5.out.size)
        have hg7 : GraphAt w7.drew B ⟨next, 0, (l.take i).map emptyO⟩ := HG.out.below (hbr7.trans ((below_drew (Below.refl _ _)).mono hbr7.size))
        obtain ⟨hat0, hput⟩ := load_obj HAS2.out (show (l.take (i + 1))[i]? = some x by rw [List.getElem?_take_of_lt (Nat.lt_succ_self i)]; exact HX.out) next 0
        rw [List.take_take, Nat.min_eq_left (Nat.le_succ i)] at hat0 hput
        rw [List.take_take, Nat.min_self] at hput
        obtain ⟨W6, hr6, hg6, hs6⟩ := obj_lays B _ x.1 x.2.kind w7.drew hg7 hat0 (HWF.out _ HXM.out) (by show ((l.take i).map emptyO).length < bound; rw [List.length_map, List.length_take]; have := HSZ.out; unfold bound; omega)
        simp only at hg6
        rw [hput] at hg6
        have HR6 := Aside0.mk hr6
        have HG6 := Aside0.mk hg6
        have HS6 := Aside0.mk hs6
        have HBR7 := Aside0.mk hbr7
        have HPUT := Aside0.mk hput
        have e0 : w7.drew.cell? ⟨gb, 1, none⟩ = some (.map (some B.mb)) := by rw [← HBG.out]; exact hg7.c1
        have hS : w7.drew.cell? ⟨gb, 1, none⟩ = some (.map (some B.mb)) ∧ w7.drew.cell? ⟨xb, 0, none⟩ = some (.int .i64 x.1) ∧ w7.drew.cell? ⟨xb, 1, none⟩ = some (.int .i64 x.2.kind) := ⟨e0, (blk_cell hx7 0).trans rfl, (blk_cell hx7 1).trans rfl⟩
        clear hx7 hbr7 hg7 hat0 hput hr6 hg6 hs6 e0 w2_
        refine start_ (n := 10) (S := fun W' => W'.cell? ⟨gb, 1, none⟩ = some (.map (some B.mb)) ∧ W'.cell? ⟨xb, 0, none⟩ = some (.int .i64 x.1) ∧ W'.cell? ⟨xb, 1, none⟩ = some (.int .i64 x.2.kind)) (ds := [9]) #[false, false, false, false, false, false, false, false, false, false] (by kernel_rfl) rfl rfl hS (fun hHeld => ?_)
        refine pure_ (i := 0) (N := some 76) (v := ?_) (a' := ?_) (bb 10 1) rfl rfl (by kernel_rfl) (fun _ _ _ h => h) (Or.inl ⟨by rfl, ?_⟩) ?_ ?_
        rotate_left
        · intro w'
          go_simp
          with_reducible rfl
        rotate_left
        · simp only [Act.put, sa, sz, ss, i64_w, i32_w]
          rfl
        refine pure_ (i := 1) (N := some 77) (v := ?_) (a' := ?_) (bb 10 3) rfl rfl (by kernel_rfl) (fun _ _ _ h => h) (Or.inl ⟨by rfl, ?_⟩) ?_ ?_
        rotate_left
        · intro w'
          go_simp
          with_reducible rfl
        rotate_left
        · simp only [Act.put, sa, sz, ss, i64_w, i32_w]
          rfl
        refine pure_ (i := 2) (N := some 78) (v := ?_) (a' := ?_) (bb 10 7) rfl rfl (by kernel_rfl) (fun _ _ _ h => h) (Or.inl ⟨by rfl, ?_⟩) ?_ ?_
        rotate_left
        · intro w'
          go_simp
          with_reducible rfl
        rotate_left
        · simp only [Act.put, sa, sz, ss, i64_w, i32_w]
          rfl
        refine take_ (i := 3) (N := some 79) (v := ?_) (a' := ?_) (bb 10 15) rfl rfl (by kernel_rfl) (fun _ _ _ h => h) (Or.inl ⟨by rfl, ?_⟩) hHeld ?_ ?_
        rotate_left
        · rintro w' ⟨s1_, s2_, s3_⟩
          go_simp
          with_reducible rfl
        rotate_left
        · simp only [Act.put, sa, sz, ss, i64_w, i32_w]
          rfl
        refine pure_ (i := 4) (N := some 80) (v := ?_) (a' := ?_) (bb 10 31) rfl rfl (by kernel_rfl) (fun _ _ _ h => h) (Or.inl ⟨by rfl, ?_⟩) ?_ ?_
        rotate_left
        · intro w'
          go_simp
          with_reducible rfl
        rotate_left
        · simp only [Act.put, sa, sz, ss, i64_w, i32_w]
          rfl
        refine take_ (i := 5) (N := some 81) (v := ?_) (a' := ?_) (bb 10 63) rfl rfl (by kernel_rfl) (fun _ _ _ h => h) (Or.inl ⟨by rfl, ?_⟩) hHeld ?_ ?_
        rotate_left
        · rintro w' ⟨s1_, s2_, s3_⟩
          go_simp
          with_reducible rfl
        rotate_left
        · simp only [Act.put, sa, sz, ss, i64_w, i32_w]
          rfl
        refine pure_ (i := 6) (N := some 82) (v := ?_) (a' := ?_) (bb 10 127) rfl rfl (by kernel_rfl) (fun _ _ _ h => h) (Or.inl ⟨by rfl, ?_⟩) ?_ ?_
        rotate_left
        · intro w'
          go_simp
          with_reducible rfl
        rotate_left
        · simp only [Act.put, sa, sz, ss, i64_w, i32_w]
          rfl
        refine take_ (i := 7) (N := some 83) (v := ?_) (a' := ?_) (bb 10 255) rfl rfl (by kernel_rfl) (fun _ _ _ h => h) (Or.inl ⟨by rfl, ?_⟩) hHeld ?_ ?_
        rotate_left
        · rintro w' ⟨s1_, s2_, s3_⟩
          go_simp
          with_reducible rfl
        rotate_left
        · simp only [Act.put, sa, sz, ss, i64_w, i32_w]
          rfl
        refine one_ (i := 8) (N := some 84) (bb 10 511) rfl rfl (by kernel_rfl) (by decide) (fun K hK => ?_)
        skip
        refine goes_ Tryz.func38 (by kernel_rfl) rfl #[.int .i64 x.2.kind] (by rfl) rfl rfl (by (simp only [List.map_toArray, List.map_cons, List.map_nil]); rfl) ?_
        refine (made_calls x.2.kind _).mono ?_
        rintro e_ WL1 ⟨rfl, rfl⟩
        refine ⟨_, rfl, ?_⟩
        refine hK.out _ _ ⟨((madeW_below _ _).cell (World.block_lt_of_cell? _ _ hHeld.1)).trans hHeld.1, ((madeW_below _ _).cell (World.block_lt_of_cell? _ _ hHeld.2.1)).trans hHeld.2.1, ((madeW_below _ _).cell (World.block_lt_of_cell? _ _ hHeld.2.2)).trans hHeld.2.2⟩ (fun hHeld => ?_)
        clear hK K
        refine norm_ (a' := ?_) ?_ ?_
        rotate_left
        · show Act.put _ (some 84) _ = _
          simp only [Act.put, sa, sz, ss, i64_w, i32_w]
          rfl
        refine last_ (i := 9) (N := none) (bb 10 1023) rfl rfl (by kernel_rfl) (by decide) (fun K hK => ?_)
        refine step_update rfl (.tmp 79) (.tmp 81) (.tmp 84) 71 rfl rfl rfl rfl HR6.out ?_
        refine hK.out _ _ ?_
        clear hK K
        refine done_ (by kernel_rfl) ?_
        clear hHeld hS
        go_wp2
        clear q4
        go_roundg (gk - 1)
        case measure => have := HI.out; have := HLT.out; omega
        case rel =>
          have hz : w.heap.size ≤ w7.heap.size := Nat.le_trans HB.out.size HBR7.out.size
          refine ⟨i + 1, iv + 1, B.plus x.1 (w7.heap.size + 1) w7.heap.size, by first | rfl | rw [w1_], ⟨by have := HIV.out; omega⟩, ⟨by have := HLT.out; omega, by have := HI.out; omega⟩, ⟨HBG.out⟩, ⟨HG6.out⟩, ⟨fun q hq => ?_⟩, ⟨?_⟩, ⟨by rw [HTK.out]; exact fun z hz => (List.mem_append.1 hz).elim (HMY.out z) (fun h => by rw [List.mem_singleton.1 h]; exact HMX.out)⟩, HAS2, ⟨by rw [HTK.out]; exact fun z hz => (List.mem_append.1 hz).elim (HBL.out z) (fun h => by rw [List.mem_singleton.1 h]; exact HNB.out)⟩⟩
          · rw [← HPUT.out] at hq
            rcases foot_plus (G := ⟨next, 0, (l.take i).map emptyO⟩) hq with h | rfl | rfl
            · exact HFT.out q h
            · omega
            · exact hz
          · have h1 : Below w.heap.size w w7.drew := (HB.out.trans (HBR7.out.mono HB.out.size)).trans ((below_drew (Below.refl _ _)).mono hz)
            exact h1.trans (HS6.out.below (fun k hk hfk => by have := HFT.out k hfk; omega) h1.size)
    · have hi : i = l.length := by have := HI.out; omega
      have hg0 := HG.out
      rw [hi, List.take_length] at hg0
      have hft0 := HFT.out
      rw [hi, List.take_length] at hft0
      have hmy := HMY.out
      rw [hi, List.take_length] at hmy
      have has_ := HAS.out
      rw [hi, List.take_length] at has_
      have hbl := HBL.out
      rw [hi, List.take_length] at hbl
      have HGS := Aside0.mk hg0
      have HFT0 := Aside0.mk hft0
      have HMYA := Aside0.mk hmy
      have HASC := Aside0.mk has_
      have HBLA := Aside0.mk hbl
      have HID1 : Aside0 (∀ x ∈ l, 1 ≤ x.1) := ⟨fun x hx => by
        obtain ⟨m, hm⟩ := List.mem_iff_getElem?.1 hx
        rcases Nat.eq_zero_or_pos m with h | h
        · subst h
          have := (HHD.out x hm).1
          omega
        · obtain ⟨h2, e2⟩ := List.getElem?_eq_some_iff.1 hm
          obtain ⟨h3, e3⟩ := List.getElem?_eq_some_iff.1 HX0.out
          have h4 := asc_get has_ h h2
          have h5 := (HHD.out x0 HX0.out).1
          rw [e2, e3] at h4
          omega⟩
      have HHAS1 : Aside0 (has l 1) := ⟨⟨x0.2, by have h5 := (HHD.out x0 HX0.out).1; rw [← h5]; exact List.mem_of_getElem? HX0.out⟩⟩
      have q1 : decide (iv < (l.length : Int)) = false := decide_eq_false (by have := HIV.out; omega)
      have q2 : (iv < (l.length : Int)) = False := eq_false (by have := HIV.out; omega)
      clear hi hg0 hft0 hmy has_ hbl hlt HIV HI HG HFT HMY HAS HBL
      go_upto_region 12 with (fail)
      clear q1 q2
      go_loopg [88] l.length (fun kq v88 W => ∃ (i : Nat) (iv : Int) (H : GS), v88 = .int .i64 iv ∧ Aside0 (iv = (i : Int)) ∧ Aside0 (i ≤ l.length ∧ l.length - i ≤ kq) ∧ Aside0 (GraphAt W B H) ∧ Aside0 (WSt next l i 0 H) ∧ Aside0 (Below w.heap.size w W) ∧ Aside0 (∀ x ∈ l.take i, ∀ k ∈ x.2.links, 0 < k.2.1 → has l k.2.1))
      case atStart => exact ⟨0, 0, _, rfl, ⟨rfl⟩, ⟨by omega, by omega⟩, HGS, ⟨wst_start HASC.out HLEN0.out⟩, HB, ⟨by simp⟩⟩
      case round =>
        obtain ⟨i2, iv2, H, rfl, HIV, HI, HG, HLS, HB2, HCL⟩ := hrel
        by_cases hlt : i2 < l.length
        · obtain ⟨kn, rfl⟩ : ∃ kn, gk = kn + 1 := ⟨gk - 1, by have := HI.out; omega⟩
          obtain ⟨x, hx⟩ : ∃ x, l[i2]? = some x := ⟨_, List.getElem?_eq_getElem hlt⟩
          have HX := Aside0.mk hx
          have HXM := Aside0.mk (List.mem_of_getElem? hx)
          have HTK : Aside0 (l.take (i2 + 1) = l.take i2 ++ [x]) := ⟨by obtain ⟨h1, e1⟩ := List.getElem?_eq_some_iff.1 hx; rw [List.take_succ_eq_append_getElem h1, e1]⟩
          obtain ⟨g0', o0', Ax, cx, e0, -, x1, x2, x3, hcx, hlr⟩ := HN.out.at hx
          obtain ⟨rfl, rfl⟩ : g0 = g0' ∧ o0 = o0' := by simpa using e0
          have y1 := (HB2.out.cell (World.block_lt_of_cell? _ _ x1)).trans x1
          have y2 := (HB2.out.cell (World.block_lt_of_cell? _ _ x2)).trans x2
          have y3 := (HB2.out.cell (World.block_lt_of_cell? _ _ x3)).trans x3
          have HLR := Aside0.mk hlr
          have HLT := Aside0.mk hlt
          have q1 : decide (iv2 < (l.length : Int)) = true := decide_eq_true (by have := HIV.out; omega)
          have q2 : (iv2 < (l.length : Int)) = True := eq_true (by have := HIV.out; omega)
          have q3 : (0 : Int) ≤ iv2 := by have := HIV.out; omega
          have q4 : iv2.toNat = i2 := by have := HIV.out; omega
          obtain ⟨xb, hxb⟩ : ∃ xb, xb = wr.heap.size := ⟨_, rfl⟩
          obtain ⟨W5, hW5⟩ : ∃ W5, W5 = wr.alloc (.cells #[.int .i64 x.1, .int .i64 x.2.kind, .slice Ax x.2.links.length cx] 50 (0, 0)) := ⟨_, rfl⟩
          have hb5 : Below wr.heap.size wr W5 := by rw [hW5]; exact below_alloc (Below.refl _ _) _
          have hx5 : W5.heap[xb]? = some (.cells #[.int .i64 x.1, .int .i64 x.2.kind, .slice Ax x.2.links.length cx] 50 (0, 0)) := by rw [hW5, hxb]; exact World.alloc_heap_new _ _
          have HXN : Aside0 (¬ foot B H xb) := ⟨fun hf => by have := HG.out.foot_lt hf; omega⟩
          have HXGE : Aside0 (wr.heap.size ≤ xb) := ⟨by omega⟩
          have HW5 := Aside0.mk hW5
          have HX5 := Aside0.mk hx5
          have HXB := Aside0.mk hxb
          have HBW5 := Aside0.mk (HB2.out.trans (hb5.mono HB2.out.size))
          have HG5 := Aside0.mk (HG.out.below hb5)
          have w1_ : wrap64 (iv2 + 1) = iv2 + 1 := wrap_ok9 _ (by omega) (by have := HIV.out; have := HSZ.out; omega)
          clear hx hlt hxb hW5 hb5 hx5 hlr hcx e0 x1 x2 x3
          go_upto_region 14 with (fail)
          rw [← HW5.out, ← HXB.out]
          clear y1 y2 y3 q1
          have d2 : W5.cell? ⟨xb, 2, none⟩ = some (.slice Ax x.2.links.length cx) := (blk_cell HX5.out 2).trans rfl
          go_upto_region 15 with (fail)
          clear d2 q2 q3 q4
          go_loopg [95] x.2.links.length (fun kq v95 W => ∃ (j : Nat) (jv : Int) (H : GS), v95 = .int .i64 jv ∧ Aside0 (jv = (j : Int)) ∧ Aside0 (j ≤ x.2.links.length ∧ x.2.links.length - j ≤ kq) ∧ Aside0 (GraphAt W B H) ∧ Aside0 (WSt next l i2 j H) ∧ Aside0 (Below w.heap.size w W) ∧ Aside0 (W.heap[xb]? = some (.cells #[.int .i64 x.1, .int .i64 x.2.kind, .slice Ax x.2.links.length cx] 50 (0, 0))) ∧ Aside0 (∀ k ∈ x.2.links.take j, 0 < k.2.1 → has l k.2.1))
          case atStart => exact ⟨0, 0, H, rfl, ⟨rfl⟩, ⟨by omega, by omega⟩, HG5, HLS, HBW5, HX5, ⟨by simp⟩⟩
          case round =>
            obtain ⟨j, jv, H3, rfl, HJV, HJ, HG3, HLS3, HB3, HX3, HCL3⟩ := hrel
            by_cases hjl : j < x.2.links.length
            · obtain ⟨k, hk⟩ : ∃ k, x.2.links[j]? = some k := ⟨_, List.getElem?_eq_getElem hjl⟩
              have HKM := Aside0.mk (List.mem_of_getElem? hk)
              have HKE := Aside0.mk hk
              have HTKJ : Aside0 (x.2.links.take (j + 1) = x.2.links.take j ++ [k]) := ⟨by obtain ⟨h1, e1⟩ := List.getElem?_eq_some_iff.1 hk; rw [List.take_succ_eq_append_getElem h1, e1]⟩
              obtain ⟨g5, o5, hA5, hg5, k0_, k1, k2⟩ := (HLR.out.below HB3.out).at hk
              subst hA5
              have HG5L := Aside0.mk hg5
              have HJL := Aside0.mk hjl
              have q1 : decide (jv < (x.2.links.length : Int)) = true := decide_eq_true (by have := HJV.out; omega)
              have q2 : (jv < (x.2.links.length : Int)) = True := eq_true (by have := HJV.out; omega)
              have q3 : (0 : Int) ≤ jv := by have := HJV.out; omega
              have q4 : jv.toNat = j := by have := HJV.out; omega
              have w2_ : wrap64 (jv + 1) = jv + 1 := wrap_ok9 _ (by omega) (by have h9 : x.2.links.length ≤ sumO lenO l := le_sumO lenO HXM.out; have := HJV.out; have := HLL.out; omega)
              obtain ⟨yb, hyb⟩ : ∃ yb, yb = wr.heap.size := ⟨_, rfl⟩
              obtain ⟨W6, hW6⟩ : ∃ W6, W6 = wr.alloc (.cells #[.string k.1, .int .i64 k.2.1, .string k.2.2] 42 (0, 0)) := ⟨_, rfl⟩
              have hb6 : Below wr.heap.size wr W6 := by rw [hW6]; exact below_alloc (Below.refl _ _) _
              have hy6 : W6.heap[yb]? = some (.cells #[.string k.1, .int .i64 k.2.1, .string k.2.2] 42 (0, 0)) := by rw [hW6, hyb]; exact World.alloc_heap_new _ _
              have hx6 := (hb6.block _ (blk_lt HX3.out)).trans HX3.out
              have HW6 := Aside0.mk hW6
              have HY6 := Aside0.mk hy6
              have HX6 := Aside0.mk hx6
              have HYB := Aside0.mk hyb
              have HBW6 := Aside0.mk (HB3.out.trans (hb6.mono HB3.out.size))
              have hg6 := HG3.out.below hb6
              have HG6 := Aside0.mk hg6
              have HMAYK : Aside0 (LkMay k) := ⟨(HMYA.out x HXM.out).2.1 k HKM.out⟩
              clear hk hjl hyb hW6 hb6 hy6 hx6 hg5
              go_upto_region 17 with (fail)
              rw [← HW6.out, ← HYB.out]
              clear k0_ k1 k2 q1 q2 q3 q4
              have e0 : W6.cell? ⟨yb, 0, none⟩ = some (.string k.1) := (blk_cell HY6.out 0).trans rfl
              have e1 : W6.cell? ⟨yb, 1, none⟩ = some (.int .i64 k.2.1) := (blk_cell HY6.out 1).trans rfl
              have e2 : W6.cell? ⟨yb, 2, none⟩ = some (.string k.2.2) := (blk_cell HY6.out 2).trans rfl
              have c1 : W6.cell? ⟨gb, 1, none⟩ = some (.map (some B.mb)) := by rw [← HBG.out]; exact hg6.c1
              have x00 : W6.cell? ⟨xb, 0, none⟩ = some (.int .i64 x.1) := (blk_cell HX6.out 0).trans rfl
              by_cases hpos : 0 < k.2.1
              case' pos =>
                have r1 : decide (0 < k.2.1) = true := decide_eq_true hpos
                by_cases hht : has l k.2.1
                rotate_left
                · have l2 : ∀ n, (Instr.lookup 71 (.map (some B.mb)) (.int .i64 k.2.1) false).run Tryz.prog (W6.drewN n) = .ok (.pointer none) (W6.drewN n) := fun n => (hg6.below (below_dn W6 n)).lookNone (HWK.out x HXM.out k HKM.out) (has_none (fun h => hht ((upto_has HLS3.out.shape k.2.1).1 h)))
                  have HNO : Aside0 (¬ LoadP next l) := ⟨fun h => hht (h.closed x HXM.out k HKM.out hpos)⟩
                  clear hpos hht
                  go_big_quiet (fail)
                  go_wp2
                  go_ret2
                  exact ld_no HNO.out (HBW6.out.trans ((below_dn _ _).mono HBW6.out.size))
                obtain ⟨t, ht⟩ := (upto_has HLS3.out.shape k.2.1).2 hht
                have l2 : ∀ n, (Instr.lookup 71 (.map (some B.mb)) (.int .i64 k.2.1) false).run Tryz.prog (W6.drewN n) = .ok (.pointer (some ⟨B.ob k.2.1, 0, none⟩)) (W6.drewN n) := fun n => (hg6.below (below_dn W6 n)).lookAt (at_of_mem HLS3.out.asc ht)
                have HTG : Aside0 (k.2.1 = 0 ∨ 0 < k.2.1 ∧ has l k.2.1) := ⟨.inr ⟨hpos, hht⟩⟩
                clear ht hpos hht
                go_big_quiet (fail)
                go_upto_region 19 with (fail)
                clear r1 l2
              case' neg =>
                have r1 : decide (0 < k.2.1) = false := decide_eq_false hpos
                have HTG : Aside0 (k.2.1 = 0 ∨ 0 < k.2.1 ∧ has l k.2.1) := ⟨.inl (by rcases HMAYK.out.2 with h | h <;> omega)⟩
                clear hpos
                go_big_quiet (fail)
                go_upto_region 19 with (fail)
                clear r1
              all_goals
                obtain ⟨o, H4, hat, hput, hls4⟩ := wst_link HASC.out HID1.out HLS3.out HX.out HKE.out (HMYA.out x HXM.out).2.2 HLL.out HTG.out
                have HAT := Aside0.mk hat
                have HPUT := Aside0.mk hput
                have HLS4 := Aside0.mk hls4
                obtain ⟨W7, hW7⟩ : ∃ W7, W7 = W6.drewN nq := ⟨_, rfl⟩
                have hb7 : Below W6.heap.size W6 W7 := by rw [hW7]; exact below_dn _ _
                have HW7 := Aside0.mk hW7
                rw [← hW7]
                have hb7d : Below W6.heap.size W6 W7.drew := hb7.trans ((below_drew (Below.refl _ _)).mono hb7.size)
                have HB7D := Aside0.mk hb7d
                have hg7 : GraphAt W7.drew B H3 := hg6.below hb7d
                have hs0 : k.1.size ≤ 64 := by
                  have h1 := HMAYK.out.1
                  unfold goodName at h1
                  simp only [Bool.and_eq_true, decide_eq_true_eq] at h1
                  exact h1.1.1.1.2
                have HS0 := Aside0.mk hs0
                have hS : W7.drew.cell? ⟨gb, 1, none⟩ = some (.map (some B.mb)) ∧ W7.drew.cell? ⟨xb, 0, none⟩ = some (.int .i64 x.1) ∧ (Instr.lookup 71 (.map (some B.mb)) (.int .i64 x.1) false).run Tryz.prog W7.drew = .ok (.pointer (some ⟨B.ob x.1, 0, none⟩)) W7.drew ∧ W7.drew.cell? ⟨yb, 0, none⟩ = some (.string k.1) ∧ W7.drew.cell? ⟨yb, 1, none⟩ = some (.int .i64 k.2.1) ∧ W7.drew.cell? ⟨yb, 2, none⟩ = some (.string k.2.2) ∧ GraphAt W7.drew B H3 ∧ Below W6.heap.size W6 W7.drew :=
                  ⟨(hb7d.cell (World.block_lt_of_cell? _ _ c1)).trans c1, (hb7d.cell (World.block_lt_of_cell? _ _ x00)).trans x00, hg7.lookAt HAT.out, (hb7d.cell (World.block_lt_of_cell? _ _ e0)).trans e0, (hb7d.cell (World.block_lt_of_cell? _ _ e1)).trans e1, (hb7d.cell (World.block_lt_of_cell? _ _ e2)).trans e2, hg7, hb7d⟩
                clear hW7 hb7 hb7d hg6 hg7 hs0 c1 x00 e0 e1 e2 hat hput hls4
                refine start_ (n := 10) (S := fun W' => W'.cell? ⟨gb, 1, none⟩ = some (.map (some B.mb)) ∧ W'.cell? ⟨xb, 0, none⟩ = some (.int .i64 x.1) ∧ (Instr.lookup 71 (.map (some B.mb)) (.int .i64 x.1) false).run Tryz.prog W' = .ok (.pointer (some ⟨B.ob x.1, 0, none⟩)) W' ∧ W'.cell? ⟨yb, 0, none⟩ = some (.string k.1) ∧ W'.cell? ⟨yb, 1, none⟩ = some (.int .i64 k.2.1) ∧ W'.cell? ⟨yb, 2, none⟩ = some (.string k.2.2) ∧ GraphAt W' B H3 ∧ Below W6.heap.size W6 W') (ds := [9]) #[false, false, false, false, false, false, false, false, false, false] (by kernel_rfl) rfl rfl hS (fun hHeld => ?_)
                refine pure_ (i := 0) (N := some 112) (v := ?_) (a' := ?_) (bb 10 1) rfl rfl (by kernel_rfl) (fun _ _ _ h => h) (Or.inl ⟨by rfl, ?_⟩) ?_ ?_
                rotate_left
                · intro w'
                  go_simp
                  with_reducible rfl
                rotate_left
                · simp only [Act.put, sa, sz, ss, i64_w, i32_w]
                  rfl
                refine pure_ (i := 1) (N := some 113) (v := ?_) (a' := ?_) (bb 10 3) rfl rfl (by kernel_rfl) (fun _ _ _ h => h) (Or.inl ⟨by rfl, ?_⟩) ?_ ?_
                rotate_left
                · intro w'
                  go_simp
                  with_reducible rfl
                rotate_left
                · simp only [Act.put, sa, sz, ss, i64_w, i32_w]
                  rfl
                refine pure_ (i := 2) (N := some 114) (v := ?_) (a' := ?_) (bb 10 7) rfl rfl (by kernel_rfl) (fun _ _ _ h => h) (Or.inl ⟨by rfl, ?_⟩) ?_ ?_
                rotate_left
                · intro w'
                  go_simp
                  with_reducible rfl
                rotate_left
                · simp only [Act.put, sa, sz, ss, i64_w, i32_w]
                  rfl
                refine pure_ (i := 3) (N := some 115) (v := ?_) (a' := ?_) (bb 10 15) rfl rfl (by kernel_rfl) (fun _ _ _ h => h) (Or.inl ⟨by rfl, ?_⟩) ?_ ?_
                rotate_left
                · intro w'
                  go_simp
                  with_reducible rfl
                rotate_left
                · simp only [Act.put, sa, sz, ss, i64_w, i32_w]
                  rfl
                refine take_ (i := 4) (N := some 116) (v := ?_) (a' := ?_) (bb 10 31) rfl rfl (by kernel_rfl) (fun _ _ _ h => h) (Or.inl ⟨by rfl, ?_⟩) hHeld ?_ ?_
                rotate_left
                · rintro w' ⟨s1_, s2_, s3_, s4_, s5_, s6_, s7_, s8_⟩
                  go_simp
                  with_reducible rfl
                rotate_left
                · simp only [Act.put, sa, sz, ss, i64_w, i32_w]
                  rfl
                refine pure_ (i := 5) (N := some 117) (v := ?_) (a' := ?_) (bb 10 63) rfl rfl (by kernel_rfl) (fun _ _ _ h => h) (Or.inl ⟨by rfl, ?_⟩) ?_ ?_
                rotate_left
                · intro w'
                  go_simp
                  with_reducible rfl
                rotate_left
                · simp only [Act.put, sa, sz, ss, i64_w, i32_w]
                  rfl
                refine take_ (i := 6) (N := some 118) (v := ?_) (a' := ?_) (bb 10 127) rfl rfl (by kernel_rfl) (fun _ _ _ h => h) (Or.inl ⟨by rfl, ?_⟩) hHeld ?_ ?_
                rotate_left
                · rintro w' ⟨s1_, s2_, s3_, s4_, s5_, s6_, s7_, s8_⟩
                  go_simp
                  with_reducible rfl
                rotate_left
                · simp only [Act.put, sa, sz, ss, i64_w, i32_w]
                  rfl
                refine take_ (i := 7) (N := some 119) (v := ?_) (a' := ?_) (bb 10 255) rfl rfl (by kernel_rfl) (fun _ _ _ h => h) (Or.inl ⟨by rfl, ?_⟩) hHeld ?_ ?_
                rotate_left
                · rintro w' ⟨s1_, s2_, s3_, s4_, s5_, s6_, s7_, s8_⟩
                  go_simp
                  with_reducible rfl
                rotate_left
                · simp only [Act.put, sa, sz, ss, i64_w, i32_w]
                  rfl
                refine take_ (i := 8) (N := some 120) (v := ?_) (a' := ?_) (bb 10 511) rfl rfl (by kernel_rfl) (fun _ _ _ h => h) (Or.inl ⟨by rfl, ?_⟩) hHeld ?_ ?_
                rotate_left
                · rintro w' ⟨s1_, s2_, s3_, s4_, s5_, s6_, s7_, s8_⟩
                  go_simp
                  with_reducible rfl
                rotate_left
                · simp only [Act.put, sa, sz, ss, i64_w, i32_w]
                  rfl
                have hcp := put_calls B H3 x.1 o k _ hHeld.2.2.2.2.2.2.1 HAT.out HS0.out H4 HPUT.out
                rw [HBG.out] at hcp
                have HCP := Aside0.mk hcp
                clear hcp
                refine last_ (i := 9) (N := some 121) (bb 10 1023) rfl rfl (by kernel_rfl) (by decide) (fun K hK => ?_)
                skip
                refine goes_ Tryz.func42 (by kernel_rfl) rfl #[.pointer (some ⟨gb, 0, none⟩), .pointer (some ⟨B.ob x.1, 0, none⟩), .agg #[.string k.1, .int .i64 k.2.1, .string k.2.2]] (by rfl) rfl rfl (by (simp only [List.map_toArray, List.map_cons, List.map_nil]); rfl) ?_
                refine HCP.out.mono ?_
                rintro e_ w8 ⟨rfl, hg8, hs8⟩
                refine ⟨_, rfl, ?_⟩
                refine hK.out _ _ ?_
                clear hK K
                refine norm_ (a' := ?_) ?_ ?_
                rotate_left
                · show Act.put _ (some 121) _ = _
                  simp only [Act.put, sa, sz, ss, i64_w, i32_w]
                  rfl
                refine done_ (by kernel_rfl) ?_
                have HG8 := Aside0.mk hg8
                have HS8 := Aside0.mk hs8
                clear hHeld hS hg8 hs8
                go_wp2
                go_roundg (gk - 1)
                case measure => have := HJ.out; have := HJL.out; omega
                case rel =>
                  have hb : Below w.heap.size w W7.drew := HBW6.out.trans (HB7D.out.mono HBW6.out.size)
                  have hfe : ∀ q, foot B H3 q → foot B ⟨next, 0, l.map emptyO⟩ q := fun q hq => foot_has hq (fun id hid => has_empty.2 ((upto_has HLS3.out.shape id).1 hid))
                  refine ⟨j + 1, jv + 1, H4, by first | rfl | rw [w2_], ⟨by have := HJV.out; omega⟩, ⟨by have := HJL.out; omega, by have := HJ.out; omega⟩, HG8, HLS4, ⟨?_⟩, ⟨?_⟩, ⟨by rw [HTKJ.out]; exact fun z hz h0 => (List.mem_append.1 hz).elim (fun h => HCL3.out z h h0) (fun h => by rw [List.mem_singleton.1 h] at h0 ⊢; exact HTG.out.elim (fun e => by omega) (fun e => e.2))⟩⟩
                  · exact hb.trans (HS8.out.below (fun q hq hfq => by have := HFT0.out q (hfe q hfq); omega) hb.size)
                  · refine (HS8.out.same xb (fun hfq => HXN.out (foot_has hfq (fun id hid => (upto_has HLS.out.shape id).2 ((upto_has HLS3.out.shape id).1 hid)))) ?_).trans ((HB7D.out.block xb (blk_lt HX6.out)).trans HX6.out)
                    exact Nat.lt_of_lt_of_le (blk_lt HX6.out) HB7D.out.size
            · have hjn : j = x.2.links.length := by have := HJ.out; omega
              have HLSN : Aside0 (WSt next l (i2 + 1) 0 H3) := ⟨wst_node HX.out (hjn ▸ HLS3.out)⟩
              have HCLN : Aside0 (∀ z ∈ l.take (i2 + 1), ∀ k ∈ z.2.links, 0 < k.2.1 → has l k.2.1) := ⟨by
                rw [HTK.out]
                intro z hz k hk h0
                rcases List.mem_append.1 hz with h | h
                · exact HCL.out z h k hk h0
                · obtain rfl := List.mem_singleton.1 h
                  have h3 := HCL3.out
                  rw [hjn, List.take_length] at h3
                  exact h3 k hk h0⟩
              have q1 : decide (jv < (x.2.links.length : Int)) = false := decide_eq_false (by have := HJV.out; omega)
              have q2 : (jv < (x.2.links.length : Int)) = False := eq_false (by have := HJV.out; omega)
              clear hjn hjl
              go_wp2
              go_roundg kn
              case measure => omega
              case rel => exact ⟨i2 + 1, iv2 + 1, H3, by first | rfl | rw [w1_], ⟨by have := HIV.out; omega⟩, ⟨by have := HLT.out; omega, by have := HI.out; omega⟩, HG3, HLSN, HB3, HCLN⟩
        · have hi2 : i2 = l.length := by have := HI.out; omega
          have hHG : H = ldG next l := wst_end (hi2 ▸ HLS.out)
          have hcl := HCL.out
          rw [hi2, List.take_length] at hcl
          subst hHG
          have HCLA : Aside0 (Closed (ldG next l)) := ⟨ld_closed hcl⟩
          have HCLB := Aside0.mk hcl
          have q1 : decide (iv2 < (l.length : Int)) = false := decide_eq_false (by have := HIV.out; omega)
          have q2 : (iv2 < (l.length : Int)) = False := eq_false (by have := HIV.out; omega)
          have c2 : wr.cell? ⟨gb, 2, none⟩ = some (.int .i64 (ldG next l).count) := by rw [← HBG.out]; exact HG.out.c2
          clear hi2 hlt hcl
          by_cases hcnt : 256 < (ldG next l).count
          · have r1 : decide (256 < (ldG next l).count) = true := decide_eq_true hcnt
            have HNO : Aside0 (¬ LoadP next l) := ⟨fun h => by have h2 : ((sumO lenO l : Nat) : Int) = (ldG next l).count := rfl; have := h.links; omega⟩
            clear hcnt
            go_upto_region 22 with (fail)
            clear q1 q2
            go_wp2
            go_ret2
            exact ld_no HNO.out HB2.out
          have r1 : decide (256 < (ldG next l).count) = false := decide_eq_false hcnt
          have HCNT : Aside0 (sumO lenO l ≤ 256) := ⟨by have h2 : ((sumO lenO l : Nat) : Int) = (ldG next l).count := rfl; omega⟩
          have hre := (reached_calls B (ldG next l) wr HG.out HCLA.out (ld_has.2 HHAS1.out) (by rw [ld_length]; have := HSZ.out; omega) (fun y hy => by have := ld_links hy HCNT.out; unfold bound; omega))
          rw [HBG.out] at hre
          have HRE := Aside0.mk hre
          clear hre hcnt
          go_upto_region 22 with (fail)
          clear q1 q2
          by_cases hrch : ∀ x ∈ l, Rch (grL l) x.1
          rotate_left
          · have HNO : Aside0 (¬ LoadP next l) := ⟨fun h => hrch h.rch⟩
            have HNR := Aside0.mk hrch
            clear hrch
            go_wp2_with (go_at_call 52; refine HRE.out.mono ?_; rintro e_ w9 ⟨sb, S, rfl, -, hse, hasc, hall, hb9⟩; have HB9 := Aside0.mk hb9; have hln : ∀ ty, (Builtin.len_ #[100] ty #[.map (some sb)]).run Tryz.prog w9 = .ok (.int .i64 (S.length : Int)) w9 := (fun ty => seen_run hse rfl ty); have hne : ((S.length : Int) != (l.length : Int)) = true := ld_part HCLB.out HHAS1.out HASC.out hasc hall HNR.out; clear hse hasc hall hb9)
            go_ret2
            exact ld_no HNO.out (HB2.out.trans (HB9.out.mono HB2.out.size))
          have HRCH := Aside0.mk hrch
          clear hrch
          go_upto_region 24 with (go_at_call 52; refine HRE.out.mono ?_; rintro e_ w9 ⟨sb, S, rfl, -, hse, hasc, hall, hb9⟩; have HB9 := Aside0.mk hb9; have hln : ∀ ty, (Builtin.len_ #[100] ty #[.map (some sb)]).run Tryz.prog w9 = .ok (.int .i64 (l.length : Int)) w9 := (fun ty => seen_run hse (ld_full HCLB.out HHAS1.out HASC.out hasc hall HRCH.out) ty); clear hse hasc hall hb9)
          clear hln c2 r1
          have hg9 : GraphAt w9 B (ldG next l) := HG.out.below HB9.out
          have HG9 := Aside0.mk hg9
          have c1 : w9.cell? ⟨gb, 1, none⟩ = some (.map (some B.mb)) := by rw [← HBG.out]; exact hg9.c1
          obtain ⟨w10, hrr, hrg0, hgr0, hsz0⟩ := hg9.objs.range (t := 71) (e := 75) (int_keyed Tryz.underlying3) Tryz.underlying71
          have hb10 : Below w9.heap.size w9 w10 := (Below.refl _ _).grown hgr0 (Nat.le_refl _) (fun k hk => by cases hk)
          have HB10 := Aside0.mk hb10
          have HRG0 := Aside0.mk hrg0
          obtain ⟨rb, hrb⟩ : ∃ rb, rb = w9.heap.size := ⟨_, rfl⟩
          rw [← hrb] at hrr
          have HRB := Aside0.mk hrb
          clear hrg0 hgr0 hsz0 hb10 hg9 hrb
          go_upto_region 25 with (fail)
          clear hrr c1
          go_loopg [] (Maps.size (DataW.map (H := Unit) ((ldG next l).objs.map (encO B.ob)))) (fun kq W => ∃ (left : Lit → Bool) (cnt : Nat), Aside0 (W.ranges Tryz.prog 3 readP B.mb rb (ldG next l).objs.length (.map ((ldG next l).objs.map (encO B.ob))) left cnt) ∧ Aside0 (cnt ≤ kq) ∧ Aside0 (Below w9.heap.size w9 W) ∧ Aside0 (∀ id o, (ldG next l).at id = some o → left (keyO id) = false → id = 1 ∨ o.kind ≠ 1 ∨ o.leads = 1))
          case atStart => exact ⟨_, _, ⟨HRB.out ▸ HRG0.out⟩, ⟨Nat.le_refl _⟩, HB10, ⟨fun id o ho hno => by rw [has_of_at ho] at hno; cases hno⟩⟩
          case round =>
            obtain ⟨left, cnt, HR, HC, HBR, HCK⟩ := hrel
            rcases HR.out.next (int_keyed Tryz.underlying3) 0 with ⟨h0, hleft, hrun⟩ | ⟨key, v, kl, y, w', cnt', hkey, -, hv, hat, hrun, hrg', hlt', hgr, hsz, hen⟩
            · have hnx : ∀ ty, (Instr.next (.pointer (some ⟨rb, 0, none⟩)) false ty).run Tryz.prog wr = .ok (.tuple #[.bool false]) wr := fun _ => hrun
              have HYES : Aside0 (LoadP next l) := ⟨⟨HLEN0.out, HSZ.out, HHD.out, HNX.out, HMYA.out, HASC.out, HBLA.out, HCLB.out, HCNT.out, HRCH.out, ld_ones HASC.out (fun id o ho => HCK.out id o ho (hleft _))⟩⟩
              clear hrun hleft
              go_wp2
              go_ret2
              exact .inl ⟨HYES.out, B, by rw [HBG.out]; rfl, HG9.out.below HBR.out, fun q hq => HFT0.out q (foot_has hq (fun id hid => has_empty.2 (ld_has.1 hid))), HB2.out.trans ((HB9.out.trans (HBR.out.mono HB9.out.size)).mono HB2.out.size)⟩
            · obtain ⟨id, rfl, rfl, hwf⟩ := Maps.keyOf_int_inv Tryz.underlying3 hkey
              have hat' : ∀ zd, (match (ldG next l).at id with | some _ => DataW.lit (Lit.int .i64 (B.ob id : Int)) | none => zd) = y.1 := fun zd => (atKey_O B.ob (ldG next l) id zd).symm.trans (hat zd)
              cases ho : (ldG next l).at id with
              | none =>
                rw [ho] at hat'
                have h1 := hat' .nil
                have h2 := hat' (.lit (.int .i64 0))
                rw [← h1] at h2
                cases h2
              | some o =>
                rw [ho] at hat'
                obtain ⟨y1, y2⟩ := y
                have h1 := hat' .nil
                simp only at h1
                subst h1
                obtain rfl := readP_inv hv
                have hgw : GraphAt w' B (ldG next l) := HG9.out.below (HBR.out.grown hgr HBR.out.size (fun k hk => by cases hk; have := HRB.out; omega))
                have o0 : w'.cell? ⟨B.ob id, 0, none⟩ = some (.int .i64 o.kind) := (hgw.obj ho).c0
                have o2 : w'.cell? ⟨B.ob id, 2, none⟩ = some (.int .i64 o.leads) := (hgw.obj ho).c2
                have hnx : ∀ ty, (Instr.next (.pointer (some ⟨rb, 0, none⟩)) false ty).run Tryz.prog wr = .ok (.tuple #[.bool true, .int .i64 id, .pointer (some ⟨B.ob id, 0, none⟩)]) w' := fun _ => hrun
                have HRG' := Aside0.mk hrg'
                have HLT' := Aside0.mk hlt'
                have HBR' : Aside0 (Below w9.heap.size w9 w') := ⟨HBR.out.grown hgr HBR.out.size (fun k hk => by cases hk; have := HRB.out; omega)⟩
                have HO := Aside0.mk ho
                clear hrun hkey hv hat hat' hrg' hlt' hgr hsz hgw ho
                by_cases hgood : id = 1 ∨ o.kind ≠ 1 ∨ o.leads = 1
                rotate_left
                · have HNO : Aside0 (¬ LoadP next l) := ⟨fun h => hgood (ld_ones_of h.ones HO.out)⟩
                  have i1 : (id != 1) = true := by simpa using (fun e => hgood (.inl e) : ¬ id = 1)
                  have i2_ : (o.kind == 1) = true := by simpa using (Classical.not_not.1 (fun e => hgood (.inr (.inl e))) : o.kind = 1)
                  have i3 : (o.leads != 1) = true := by simpa using (fun e => hgood (.inr (.inr e)) : ¬ o.leads = 1)
                  clear hgood
                  go_wp2
                  go_ret2
                  exact ld_no HNO.out (HB2.out.trans ((HB9.out.trans (HBR'.out.mono HB9.out.size)).mono HB2.out.size))
                have HGD := Aside0.mk hgood
                by_cases hid : id = 1
                case' pos =>
                  have i1 : (id != 1) = false := by simpa using hid
                  clear hid hgood
                  go_wp2
                case' neg =>
                  have i1 : (id != 1) = true := by simpa using hid
                  by_cases hkd : o.kind = 1
                  case' pos =>
                    have hl1 : o.leads = 1 := by
                      rcases hgood with h | h | h
                      · exact absurd h hid
                      · exact absurd hkd h
                      · exact h
                    rw [hkd] at o0
                    rw [hl1] at o2
                    clear hid hkd hl1 hgood
                    go_wp2
                  case' neg =>
                    have i2_ : (o.kind == 1) = false := by simpa using hkd
                    clear hid hkd hgood
                    go_wp2
                all_goals
                  go_roundg (gk - 1)
                  case measure => have := HC.out; have := HLT'.out; omega
                  case rel =>
                    refine ⟨_, cnt', HRG', ⟨by have := HC.out; have := HLT'.out; omega⟩, HBR', ⟨fun id' o' ho' hno => ?_⟩⟩
                    by_cases e : id' = id
                    · subst e
                      rw [HO.out] at ho'
                      rw [← Option.some.inj ho']
                      exact HGD.out
                    · refine HCK.out id' o' ho' ?_
                      cases hle : left (keyO id') with
                      | false => rfl
                      | true =>
                        exfalso
                        have h5 : (left (keyO id') && !(keyO id').sameKey (Lit.int .i64 id)) = false := hno
                        rw [hle, show (keyO id').sameKey (Lit.int .i64 id) = decide (id' = id) from same_keyO id' id, decide_eq_false e] at h5
                        cases h5
end
end Go.Proofs.YthifdofdoeaemaaGreatDoor.Wk
end
section
namespace Go.Proofs.YthifdofdoeaemaaGreatDoor.Wk
open Go.RowKit Go.Proofs.YthifdofdoeaemaaGreatDoorW.PrintWords Go.Proofs.YthifdofdoeaemaaGreatDoorW.PrintLast Go.Proofs.YthifdofdoeaemaaGreatDoorW.PrintMore
attribute [local go_sem] max2_int min2_int max_two min_two max_three min_three max_four min_four
set_option linter.unusedVariables false
set_option linter.unusedSimpArgs false
def errW : Option Int → Value
  | none => .nilIface
  | some c => .iface 0 (.int .i64 c)
theorem errW_none : errW none = .nilIface := rfl
theorem errW_some (c : Int) : errW (some c) = .iface 0 (.int .i64 c) := rfl
theorem info9 : (Tryz.prog.info? 9).map (fun i => (i.zero, i.size, i.bytes)) = some (some (.string ⟨#[]⟩), 1, 16) := by kernel_rfl
end Go.Proofs.YthifdofdoeaemaaGreatDoor.Wk
end
section
namespace Go.Proofs.YthifdofdoeaemaaGreatDoor.Wk
open Go.RowKit Go.Proofs.YthifdofdoeaemaaGreatDoorW.PrintWords Go.Proofs.YthifdofdoeaemaaGreatDoorW.PrintLast Go.Proofs.YthifdofdoeaemaaGreatDoorW.PrintMore
attribute [local go_sem] max2_int min2_int max_two min_two max_three min_three max_four min_four
set_option linter.unusedVariables false
set_option linter.unusedSimpArgs false
mutual
def slabvaultref09_Name.j0 : Nat → ByteArray → Bool → Option (Bool)
  | 0, _, _ => none
  | k + 1, x0, x19 => if x19 = true then (some false) else (slabvaultref09_Name.l0 k x0 0)
def slabvaultref09_Name.l0 : Nat → ByteArray → Int → Option (Bool)
  | 0, _, _ => none
  | k + 1, x0, x3 => if x3 < (x0.size : Int) then (if 0 ≤ x3 then (if (bt x0 x3) = 0 then (some false) else (if (bt x0 x3) = 47 then (some false) else (slabvaultref09_Name.l0 k x0 (wrap64 (x3 + 1))))) else (none)) else (some true)
end
def slabvaultref09_Name.f (k : Nat) (a0 : ByteArray) : Option (Bool) := if (a0.size : Int) < 1 then (slabvaultref09_Name.j0 k a0 true) else (if (a0.size : Int) > 64 then (slabvaultref09_Name.j0 k a0 true) else (if a0.toList = ([46] : List UInt8) then (slabvaultref09_Name.j0 k a0 true) else (slabvaultref09_Name.j0 k a0 (a0.toList == ([46, 46] : List UInt8)))))
set_option maxHeartbeats 8000000 in
set_option maxRecDepth 100000 in
theorem slabvaultref09_Name.calls (k : Nat) (a0 : ByteArray) (r : Bool) (w : World) (h : slabvaultref09_Name.f k a0 = some r) :
    Calls Tryz.prog 82 #[.string a0] w fun e w' => e = .returned (.bool r) ∧ Drawn0 w w' := by
  have H : (if (a0.size : Int) < 1 then (slabvaultref09_Name.j0 k a0 true) else (if (a0.size : Int) > 64 then (slabvaultref09_Name.j0 k a0 true) else (if a0.toList = ([46] : List UInt8) then (slabvaultref09_Name.j0 k a0 true) else (slabvaultref09_Name.j0 k a0 (a0.toList == ([46, 46] : List UInt8)))))) = some r := h
  clear h
  have HC2 := Aside0.mk H
  clear H
  go_enter Tryz.func82, Tryz.ntmps82
  go_upto_region 1 with (fail)
  go_cut [19] (fun v19 wc => ∃ (kq : Nat) (x19_1 : Bool), v19 = .bool x19_1 ∧ Aside0 (slabvaultref09_Name.j0 kq a0 x19_1 = some r) ∧ Aside0 (kq ≤ k) ∧ Drawn0 w wc)
  case first =>
    have H := HC2.out
    clear HC2
    by_cases c3 : (a0.size : Int) < 1
    · rw [if_pos c3] at H
      have c3b0 : decide ((a0.size : Int) < 1) = true := decide_eq_true c3
      have c3b1 : decide (a0.size < 1) = true := decide_eq_true (by omega)
      clear c3
      (first | rw [c3b0] | (simp only [i64_w, i32_w]; rw [c3b0]) | skip)
      have H' := Aside0.mk H
      clear H
      go_wp2
      go_meet
      case rel => exact ⟨_, (true), (by first | rfl | (simp; done) | (simp [*]; done)), H', ⟨by first | omega | exact Nat.le_refl _⟩, by repeat (first | exact Drawn0.refl _ | apply Drawn0.step)⟩
    · rw [if_neg c3] at H
      have c3b0 : decide ((a0.size : Int) < 1) = false := decide_eq_false c3
      have c3b1 : decide (a0.size < 1) = false := decide_eq_false (by omega)
      clear c3
      (first | rw [c3b0] | (simp only [i64_w, i32_w]; rw [c3b0]) | skip)
      by_cases c4 : (a0.size : Int) > 64
      · rw [if_pos c4] at H
        have c4b0 : decide (64 < (a0.size : Int)) = true := decide_eq_true c4
        have c4b1 : decide (64 < a0.size) = true := decide_eq_true (by omega)
        clear c4
        have H' := Aside0.mk H
        clear H
        go_wp2
        go_meet
        case rel => exact ⟨_, (true), (by first | rfl | (simp; done) | (simp [*]; done)), H', ⟨by first | omega | exact Nat.le_refl _⟩, by repeat (first | exact Drawn0.refl _ | apply Drawn0.step)⟩
      · rw [if_neg c4] at H
        have c4b0 : decide (64 < (a0.size : Int)) = false := decide_eq_false c4
        have c4b1 : decide (64 < a0.size) = false := decide_eq_false (by omega)
        clear c4
        by_cases c5 : a0.toList = ([46] : List UInt8)
        · rw [if_pos c5] at H
          have c5b0 : (a0.toList == ([46] : List UInt8)) = true := beq_iff_eq.mpr c5
          have c5b1 : (a0.toList != ([46] : List UInt8)) = false := bne_eq_false_iff_eq.mpr c5
          clear c5
          have H' := Aside0.mk H
          clear H
          go_wp2
          go_meet
          case rel => exact ⟨_, (true), (by first | rfl | (simp; done) | (simp [*]; done)), H', ⟨by first | omega | exact Nat.le_refl _⟩, by repeat (first | exact Drawn0.refl _ | apply Drawn0.step)⟩
        · rw [if_neg c5] at H
          have c5b0 : (a0.toList == ([46] : List UInt8)) = false := beq_eq_false_iff_ne.mpr c5
          have c5b1 : (a0.toList != ([46] : List UInt8)) = true := bne_iff_ne.mpr c5
          have H' := Aside0.mk H
          clear H
          go_wp2
          go_meet
          case rel => exact ⟨_, ((a0.toList == ([46, 46] : List UInt8))), (by first | rfl | (simp; done) | (simp [*]; done)), H', ⟨by first | omega | exact Nat.le_refl _⟩, by repeat (first | exact Drawn0.refl _ | apply Drawn0.step)⟩
  case rest =>
    clear HC2
    try clear p2
    try clear c3
    try clear c3b0
    try clear c3b1
    try clear c4
    try clear c4b0
    try clear c4b1
    try clear c5
    try clear c5b0
    try clear c5b1
    obtain ⟨kq, x19_1, rfl, HA, HJ1, ⟨mc1, rfl⟩⟩ := hcut
    cases kq with
    | zero => exact absurd HA.out (by simp [slabvaultref09_Name.j0])
    | succ kj1 =>
      have H := HA.out
      clear HA
      simp only [slabvaultref09_Name.j0] at H
      by_cases c6 : x19_1 = true
      · subst c6
        have H1 : (some false) = some r := by rw [if_pos rfl] at H; exact H
        clear H
        have H := H1
        clear H1
        obtain rfl := Option.some.inj H
        go_wp2
        go_ret
        exact ⟨by first | rfl | (simp; done) | (simp [*]; done), by repeat (first | exact Drawn0.refl _ | apply Drawn0.step)⟩
      · replace c6 := Bool.eq_false_iff.mpr c6
        subst c6
        have H1 : (slabvaultref09_Name.l0 kj1 a0 0) = some r := by rw [if_neg (show ¬ (false = true) by decide)] at H; exact H
        clear H
        have H := H1
        clear H1
        have H' := Aside0.mk H
        clear H
        go_wp2
        go_loopg [3] kj1 (fun kq v3 w' => ∃ (x3_2 : Int), v3 = .int .i64 x3_2 ∧ Aside0 (slabvaultref09_Name.l0 kq a0 x3_2 = some r) ∧ Aside0 (kq ≤ kj1) ∧ Drawn0 w w')
        case atStart => exact ⟨(0), (by first | rfl | (simp; done) | (simp [*]; done)), H', ⟨Nat.le_refl _⟩, by repeat (first | exact Drawn0.refl _ | apply Drawn0.step)⟩
        case round =>
          clear H'
          try clear c1
          try clear p2
          try clear c3
          try clear c3b0
          try clear c3b1
          try clear c4
          try clear c4b0
          try clear c4b1
          try clear c5
          try clear c5b0
          try clear c5b1
          try clear c6
          try clear p2
          obtain ⟨x3_2, rfl, HA, HK2, ⟨m2, rfl⟩⟩ := hrel
          cases gk with
          | zero => exact absurd HA.out (by simp [slabvaultref09_Name.l0])
          | succ k2 =>
            have H := HA.out
            clear HA
            simp only [slabvaultref09_Name.l0] at H
            by_cases c7 : x3_2 < (a0.size : Int)
            · rw [if_pos c7] at H
              have c7b0 : decide (x3_2 < (a0.size : Int)) = true := decide_eq_true c7
              clear c7
              by_cases c8 : 0 ≤ x3_2
              · rw [if_pos c8] at H
                have c8b0 : decide (0 ≤ x3_2) = true := decide_eq_true c8
                clear c8
                by_cases c10 : (bt a0 x3_2) = 0
                · rw [if_pos c10] at H
                  have c10b0 : ((bt a0 x3_2) == 0) = true := beq_iff_eq.mpr c10
                  have c10b1 : ((bt a0 x3_2) != 0) = false := bne_eq_false_iff_eq.mpr c10
                  clear c10
                  obtain rfl := Option.some.inj H
                  have p9 : 0 ≤ (x3_2 : Int) := of_decide_eq_true (by first | (with_reducible assumption) | assumption)
                  have q9 : x3_2 < (a0.size : Int) := of_decide_eq_true (by first | (with_reducible assumption) | assumption)
                  have hx9 := bt_at a0 x3_2
                  replace p9 := eq_true p9
                  replace q9 := eq_true q9
                  go_wp2
                  go_ret
                  exact ⟨by first | rfl | (simp; done) | (simp [*]; done), by repeat (first | exact Drawn0.refl _ | apply Drawn0.step)⟩
                · rw [if_neg c10] at H
                  have c10b0 : ((bt a0 x3_2) == 0) = false := beq_eq_false_iff_ne.mpr c10
                  have c10b1 : ((bt a0 x3_2) != 0) = true := bne_iff_ne.mpr c10
                  by_cases c12 : (bt a0 x3_2) = 47
                  · rw [if_pos c12] at H
                    have c12b0 : ((bt a0 x3_2) == 47) = true := beq_iff_eq.mpr c12
                    have c12b1 : ((bt a0 x3_2) != 47) = false := bne_eq_false_iff_eq.mpr c12
                    clear c12
                    obtain rfl := Option.some.inj H
                    have p9 : 0 ≤ (x3_2 : Int) := of_decide_eq_true (by first | (with_reducible assumption) | assumption)
                    have q9 : x3_2 < (a0.size : Int) := of_decide_eq_true (by first | (with_reducible assumption) | assumption)
                    have hx9 := bt_at a0 x3_2
                    replace p9 := eq_true p9
                    replace q9 := eq_true q9
                    have p11 : 0 ≤ (x3_2 : Int) := of_decide_eq_true (by first | (with_reducible assumption) | assumption)
                    have q11 : x3_2 < (a0.size : Int) := of_decide_eq_true (by first | (with_reducible assumption) | assumption)
                    have hx11 := bt_at a0 x3_2
                    replace p11 := eq_true p11
                    replace q11 := eq_true q11
                    go_wp2
                    go_ret
                    exact ⟨by first | rfl | (simp; done) | (simp [*]; done), by repeat (first | exact Drawn0.refl _ | apply Drawn0.step)⟩
                  · rw [if_neg c12] at H
                    have c12b0 : ((bt a0 x3_2) == 47) = false := beq_eq_false_iff_ne.mpr c12
                    have c12b1 : ((bt a0 x3_2) != 47) = true := bne_iff_ne.mpr c12
                    have H' := Aside0.mk H
                    clear H
                    have p9 : 0 ≤ (x3_2 : Int) := of_decide_eq_true (by first | (with_reducible assumption) | assumption)
                    have q9 : x3_2 < (a0.size : Int) := of_decide_eq_true (by first | (with_reducible assumption) | assumption)
                    have hx9 := bt_at a0 x3_2
                    replace p9 := eq_true p9
                    replace q9 := eq_true q9
                    have p11 : 0 ≤ (x3_2 : Int) := of_decide_eq_true (by first | (with_reducible assumption) | assumption)
                    have q11 : x3_2 < (a0.size : Int) := of_decide_eq_true (by first | (with_reducible assumption) | assumption)
                    have hx11 := bt_at a0 x3_2
                    replace p11 := eq_true p11
                    replace q11 := eq_true q11
                    go_wp2
                    go_roundg k2
                    case measure => have := HJ1.out; have := HK2.out; omega
                    case rel => exact ⟨(wrap64 (x3_2 + 1)), (by first | rfl | (simp; done) | (simp [*]; done)), H', ⟨by have := HJ1.out; have := HK2.out; omega⟩, by repeat (first | exact Drawn0.refl _ | apply Drawn0.step)⟩
              · rw [if_neg c8] at H
                exact absurd H (by simp)
            · rw [if_neg c7] at H
              have c7b0 : decide (x3_2 < (a0.size : Int)) = false := decide_eq_false c7
              clear c7
              obtain rfl := Option.some.inj H
              go_wp2
              go_ret
              exact ⟨by first | rfl | (simp; done) | (simp [*]; done), by repeat (first | exact Drawn0.refl _ | apply Drawn0.step)⟩
def slabvaultref09_Name.Pure : Prop := ∀ (a0 : ByteArray), a0.size ≤ 140737488351232 → ∃ k, slabvaultref09_Name.f k a0 = some true
end Go.Proofs.YthifdofdoeaemaaGreatDoor.Wk
end
section
namespace Go.Proofs.YthifdofdoeaemaaGreatDoor.Wk
open Go.RowKit Go.Proofs.YthifdofdoeaemaaGreatDoorW.PrintWords Go.Proofs.YthifdofdoeaemaaGreatDoorW.PrintLast Go.Proofs.YthifdofdoeaemaaGreatDoorW.PrintMore
attribute [local go_sem] max2_int min2_int max_two min_two max_three min_three max_four min_four
set_option linter.unusedVariables false
set_option linter.unusedSimpArgs false
def slabvaultref17_parts.l0 : Nat → ByteArray → List ByteArray → Int → Int → Option (List ByteArray)
  | 0, _, _, _, _ => none
  | k + 1, x0, x3, x4, x5 => if x5 ≤ (x0.size : Int) then (if x5 = (x0.size : Int) then (if 0 ≤ x4 then (if x4 ≤ x5 then (if x3.length < 8796093022208 then (slabvaultref17_parts.l0 k x0 (x3 ++ [x0.extract (x4 : Int).toNat (x5 : Int).toNat]) (wrap64 (x5 + 1)) (wrap64 (x5 + 1))) else (none)) else (none)) else (none)) else (if 0 ≤ x5 then (if x5 < (x0.size : Int) then (if (bt x0 x5) = 47 then (if 0 ≤ x4 then (if x4 ≤ x5 then (if x3.length < 8796093022208 then (slabvaultref17_parts.l0 k x0 (x3 ++ [x0.extract (x4 : Int).toNat (x5 : Int).toNat]) (wrap64 (x5 + 1)) (wrap64 (x5 + 1))) else (none)) else (none)) else (none)) else (slabvaultref17_parts.l0 k x0 x3 x4 (wrap64 (x5 + 1)))) else (none)) else (none))) else (some x3)
def slabvaultref17_parts.f (k : Nat) (a0 : ByteArray) : Option (List ByteArray) := slabvaultref17_parts.l0 k a0 ([] : List ByteArray) 1 1
set_option maxHeartbeats 8000000 in
set_option maxRecDepth 100000 in
theorem slabvaultref17_parts.calls (k : Nat) (a0 : ByteArray) (r : List ByteArray) (w : World) (h : slabvaultref17_parts.f k a0 = some r) :
    Calls Tryz.prog 114 #[.string a0] w fun e w' => ∃ v0_ : Value, e = .returned (v0_) ∧ Kd.R Kd.string 9 w' w.heap.size (fun _ => True) v0_ r ∧ Below w.heap.size w w' := by
  have HB := Aside0.mk (Below.refl w.heap.size w)
  have H : (slabvaultref17_parts.l0 k a0 ([] : List ByteArray) 1 1) = some r := h
  clear h
  have H' := Aside0.mk H
  clear H
  go_enter Tryz.func114, Tryz.ntmps114
  go_wp2
  go_loopg [3, 4, 5] k (fun kq v3 v4 v5 w' => ∃ (x3_1 : List ByteArray) (x4_1 : Int) (x5_1 : Int), v4 = .int .i64 x4_1 ∧ v5 = .int .i64 x5_1 ∧ Aside0 (slabvaultref17_parts.l0 kq a0 x3_1 x4_1 x5_1 = some r) ∧ Aside0 (kq ≤ k) ∧ Aside0 (Kd.R Kd.string 9 w' w.heap.size (fun _ => True) v3 x3_1) ∧ Aside0 (Below w.heap.size w w'))
  case atStart => exact ⟨(([] : List ByteArray)), (1), (1), (by first | rfl | (simp; done) | (simp [*]; done)), (by first | rfl | (simp; done) | (simp [*]; done)), H', ⟨Nat.le_refl _⟩, ⟨by first | exact Kd.R_nil _ _ _ _ _ | exact Kd.N_nil _ _ _ _ _ | exact Kd.V_nil _ _ _ _ _ | exact Kd.Q_nil _ _ _ _ _ | exact Kd.S_nil _ _ _ _ _⟩, ⟨by repeat (first | (with_reducible first | exact HB.out | apply below_alloc | apply pw_below_drewN | apply below_drew1) | exact HB.out)⟩⟩
  case round =>
    clear H'
    try clear c1
    obtain ⟨x3_1, x4_1, x5_1, rfl, rfl, HA, HK1, HO_3, HB⟩ := hrel
    cases gk with
    | zero => exact absurd HA.out (by simp [slabvaultref17_parts.l0])
    | succ k1 =>
      have H := HA.out
      clear HA
      simp only [slabvaultref17_parts.l0] at H
      by_cases c2 : x5_1 ≤ (a0.size : Int)
      · rw [if_pos c2] at H
        have c2b0 : decide (x5_1 ≤ (a0.size : Int)) = true := decide_eq_true c2
        clear c2
        by_cases c3 : x5_1 = (a0.size : Int)
        · rw [if_pos c3] at H
          have c3b0 : (x5_1 == (a0.size : Int)) = true := beq_iff_eq.mpr c3
          have c3b1 : (x5_1 != (a0.size : Int)) = false := bne_eq_false_iff_eq.mpr c3
          clear c3
          by_cases c4 : 0 ≤ x4_1
          · rw [if_pos c4] at H
            have c4b0 := eq_true c4
            have c4b1 : decide (0 ≤ x4_1) = true := decide_eq_true c4
            clear c4
            by_cases c5 : x4_1 ≤ x5_1
            · rw [if_pos c5] at H
              have c5b0 := eq_true c5
              have c5b1 : decide (x4_1 ≤ x5_1) = true := decide_eq_true c5
              clear c5
              have c6b0 := eq_true (of_decide_eq_true (by first | (with_reducible assumption) | assumption) : x5_1 ≤ (a0.size : Int))
              by_cases c7 : x3_1.length < 8796093022208
              · rw [if_pos c7] at H
                have LMc7 := Aside0.mk c7
                clear c7
                obtain ⟨y101, hy101⟩ : ∃ y_ : List ByteArray, y_ = (x3_1 ++ [a0.extract (x4_1 : Int).toNat (x5_1 : Int).toNat]) := ⟨_, rfl⟩
                replace H : (slabvaultref17_parts.l0 k1 a0 y101 (wrap64 (x5_1 + 1)) (wrap64 (x5_1 + 1))) = some r := by first | (rw [hy101]; with_reducible exact H) | (have H2_ := (Option.bind_some _ _).symm.trans H; rw [hy101]; with_reducible exact H2_) | (have H2_ := (Option.bind_some _ _).symm.trans H; with_reducible exact H2_) | with_reducible exact H | (rw [hy101]; exact H) | exact H
                have Ny101 := Aside0.mk hy101
                clear hy101
                have H' := Aside0.mk H
                clear H
                go_wp2_with (first | ((with_reducible refine gate_builtin (b := .append) (xs := #[.tmp 22, .tmp 27]) rfl ?_); at_builtin; refine Kd.R_append Kd.string (w0 := w) w.heap.size rfl (.tmp 22) (.tmp 27) 77 9 (.string ⟨#[]⟩) 16 rfl Tryz.underlying77 info9 rfl (by decide) (by omega) u3 x3_1 (a0.extract (x4_1 : Int).toNat (x5_1 : Int).toNat) [.string (a0.extract (x4_1 : Int).toNat (x5_1 : Int).toNat)] (fun _ => True) (fun _ => False) rfl rfl ?aP (fun _ hk => hk.elim) ?aF ?aO ?aB ?aS ?aL ?_; (case aP => exact rfl); (case aB => exact (by repeat (first | (with_reducible first | exact HB.out | apply below_alloc | apply pw_below_drewN | apply below_drew1) | exact HB.out))); (case aF => exact (fun _ _ => trivial)); (case aO => exact (by (with_reducible repeat (first | apply Kd.R_alloc | apply Kd.R_drewN | apply Kd.R_drew)); exact HO_3.out)); (case aS => exact (below_size (by repeat (first | (with_reducible first | exact HB.out | apply below_alloc | apply pw_below_drewN | apply below_drew1) | exact HB.out)))); (case aL => have := LMc7.out; omega); intro v102 w8 ho hb hg hat; rw [← Ny101.out] at ho; have n0_ := Aside0.mk (hb); have n1_ := Aside0.mk (ho); clear HB; clear HO_3; have HB := n0_; have HO103 := n1_; clear n0_ n1_; clear ho hb hg hat))
                go_roundg k1
                case measure => have := HK1.out; omega
                case rel => exact ⟨(y101), (wrap64 (x5_1 + 1)), (wrap64 (x5_1 + 1)), (by first | rfl | (simp; done) | (simp [*]; done)), (by first | rfl | (simp; done) | (simp [*]; done)), H', ⟨by have := HK1.out; omega⟩, ⟨by (with_reducible repeat (first | apply Kd.R_alloc | apply Kd.R_drewN | apply Kd.R_drew)); exact HO103.out⟩, ⟨by repeat (first | (with_reducible first | exact HB.out | apply below_alloc | apply pw_below_drewN | apply below_drew1) | exact HB.out)⟩⟩
              · rw [if_neg c7] at H
                exact absurd H (by simp)
            · rw [if_neg c5] at H
              exact absurd H (by simp)
          · rw [if_neg c4] at H
            exact absurd H (by simp)
        · rw [if_neg c3] at H
          have c3b0 : (x5_1 == (a0.size : Int)) = false := beq_eq_false_iff_ne.mpr c3
          have c3b1 : (x5_1 != (a0.size : Int)) = true := bne_iff_ne.mpr c3
          by_cases c9 : 0 ≤ x5_1
          · rw [if_pos c9] at H
            have c9b0 : decide (0 ≤ x5_1) = true := decide_eq_true c9
            clear c9
            by_cases c10 : x5_1 < (a0.size : Int)
            · rw [if_pos c10] at H
              have c10b0 : decide (x5_1 < (a0.size : Int)) = true := decide_eq_true c10
              clear c10
              by_cases c12 : (bt a0 x5_1) = 47
              · rw [if_pos c12] at H
                have c12b0 : ((bt a0 x5_1) == 47) = true := beq_iff_eq.mpr c12
                have c12b1 : ((bt a0 x5_1) != 47) = false := bne_eq_false_iff_eq.mpr c12
                clear c12
                by_cases c13 : 0 ≤ x4_1
                · rw [if_pos c13] at H
                  have c13b0 := eq_true c13
                  have c13b1 : decide (0 ≤ x4_1) = true := decide_eq_true c13
                  clear c13
                  by_cases c14 : x4_1 ≤ x5_1
                  · rw [if_pos c14] at H
                    have c14b0 := eq_true c14
                    have c14b1 : decide (x4_1 ≤ x5_1) = true := decide_eq_true c14
                    clear c14
                    have c15b0 := eq_true (of_decide_eq_true (by first | (with_reducible assumption) | assumption) : x5_1 ≤ (a0.size : Int))
                    by_cases c16 : x3_1.length < 8796093022208
                    · rw [if_pos c16] at H
                      have LMc16 := Aside0.mk c16
                      clear c16
                      obtain ⟨y104, hy104⟩ : ∃ y_ : List ByteArray, y_ = (x3_1 ++ [a0.extract (x4_1 : Int).toNat (x5_1 : Int).toNat]) := ⟨_, rfl⟩
                      replace H : (slabvaultref17_parts.l0 k1 a0 y104 (wrap64 (x5_1 + 1)) (wrap64 (x5_1 + 1))) = some r := by first | (rw [hy104]; with_reducible exact H) | (have H2_ := (Option.bind_some _ _).symm.trans H; rw [hy104]; with_reducible exact H2_) | (have H2_ := (Option.bind_some _ _).symm.trans H; with_reducible exact H2_) | with_reducible exact H | (rw [hy104]; exact H) | exact H
                      have Ny104 := Aside0.mk hy104
                      clear hy104
                      have H' := Aside0.mk H
                      clear H
                      have p11 : 0 ≤ (x5_1 : Int) := of_decide_eq_true (by first | (with_reducible assumption) | assumption)
                      have q11 : x5_1 < (a0.size : Int) := of_decide_eq_true (by first | (with_reducible assumption) | assumption)
                      have hx11 := bt_at a0 x5_1
                      replace p11 := eq_true p11
                      replace q11 := eq_true q11
                      go_wp2_with (first | ((with_reducible refine gate_builtin (b := .append) (xs := #[.tmp 22, .tmp 27]) rfl ?_); at_builtin; refine Kd.R_append Kd.string (w0 := w) w.heap.size rfl (.tmp 22) (.tmp 27) 77 9 (.string ⟨#[]⟩) 16 rfl Tryz.underlying77 info9 rfl (by decide) (by omega) u3 x3_1 (a0.extract (x4_1 : Int).toNat (x5_1 : Int).toNat) [.string (a0.extract (x4_1 : Int).toNat (x5_1 : Int).toNat)] (fun _ => True) (fun _ => False) rfl rfl ?aP (fun _ hk => hk.elim) ?aF ?aO ?aB ?aS ?aL ?_; (case aP => exact rfl); (case aB => exact (by repeat (first | (with_reducible first | exact HB.out | apply below_alloc | apply pw_below_drewN | apply below_drew1) | exact HB.out))); (case aF => exact (fun _ _ => trivial)); (case aO => exact (by (with_reducible repeat (first | apply Kd.R_alloc | apply Kd.R_drewN | apply Kd.R_drew)); exact HO_3.out)); (case aS => exact (below_size (by repeat (first | (with_reducible first | exact HB.out | apply below_alloc | apply pw_below_drewN | apply below_drew1) | exact HB.out)))); (case aL => have := LMc16.out; omega); intro v105 w17 ho hb hg hat; rw [← Ny104.out] at ho; have n0_ := Aside0.mk (hb); have n1_ := Aside0.mk (ho); clear HB; clear HO_3; have HB := n0_; have HO106 := n1_; clear n0_ n1_; clear ho hb hg hat))
                      go_roundg k1
                      case measure => have := HK1.out; omega
                      case rel => exact ⟨(y104), (wrap64 (x5_1 + 1)), (wrap64 (x5_1 + 1)), (by first | rfl | (simp; done) | (simp [*]; done)), (by first | rfl | (simp; done) | (simp [*]; done)), H', ⟨by have := HK1.out; omega⟩, ⟨by (with_reducible repeat (first | apply Kd.R_alloc | apply Kd.R_drewN | apply Kd.R_drew)); exact HO106.out⟩, ⟨by repeat (first | (with_reducible first | exact HB.out | apply below_alloc | apply pw_below_drewN | apply below_drew1) | exact HB.out)⟩⟩
                    · rw [if_neg c16] at H
                      exact absurd H (by simp)
                  · rw [if_neg c14] at H
                    exact absurd H (by simp)
                · rw [if_neg c13] at H
                  exact absurd H (by simp)
              · rw [if_neg c12] at H
                have c12b0 : ((bt a0 x5_1) == 47) = false := beq_eq_false_iff_ne.mpr c12
                have c12b1 : ((bt a0 x5_1) != 47) = true := bne_iff_ne.mpr c12
                have H' := Aside0.mk H
                clear H
                have p11 : 0 ≤ (x5_1 : Int) := of_decide_eq_true (by first | (with_reducible assumption) | assumption)
                have q11 : x5_1 < (a0.size : Int) := of_decide_eq_true (by first | (with_reducible assumption) | assumption)
                have hx11 := bt_at a0 x5_1
                replace p11 := eq_true p11
                replace q11 := eq_true q11
                go_wp2
                go_roundg k1
                case measure => have := HK1.out; omega
                case rel => exact ⟨(x3_1), (x4_1), (wrap64 (x5_1 + 1)), (by first | rfl | (simp; done) | (simp [*]; done)), (by first | rfl | (simp; done) | (simp [*]; done)), H', ⟨by have := HK1.out; omega⟩, ⟨by (with_reducible repeat (first | apply Kd.R_alloc | apply Kd.R_drewN | apply Kd.R_drew)); exact HO_3.out⟩, ⟨by repeat (first | (with_reducible first | exact HB.out | apply below_alloc | apply pw_below_drewN | apply below_drew1) | exact HB.out)⟩⟩
            · rw [if_neg c10] at H
              exact absurd H (by simp)
          · rw [if_neg c9] at H
            exact absurd H (by simp)
      · rw [if_neg c2] at H
        have c2b0 : decide (x5_1 ≤ (a0.size : Int)) = false := decide_eq_false c2
        clear c2
        obtain rfl := Option.some.inj H
        go_wp2
        go_ret
        exact ⟨_, by first | rfl | (simp [errW_none, errW_some] <;> rfl) | (simp [*, errW_none, errW_some] <;> rfl), by (with_reducible repeat (first | apply Kd.R_alloc | apply Kd.R_drewN | apply Kd.R_drew)); exact HO_3.out, by repeat (first | (with_reducible first | exact HB.out | apply below_alloc | apply pw_below_drewN | apply below_drew1) | exact HB.out)⟩
end Go.Proofs.YthifdofdoeaemaaGreatDoor.Wk
end
section
namespace Go.Proofs.YthifdofdoeaemaaGreatDoor.Wk
open Go.RowKit Go.Proofs.YthifdofdoeaemaaGreatDoorW.PrintWords Go.Proofs.YthifdofdoeaemaaGreatDoorW.PrintLast Go.Proofs.YthifdofdoeaemaaGreatDoorW.PrintMore
attribute [local go_sem] max2_int min2_int max_two min_two max_three min_three max_four min_four
set_option linter.unusedVariables false
set_option linter.unusedSimpArgs false
mutual
def slabvaultref17_Parse.j0 : Nat → ByteArray → Bool → Option (List ByteArray × Int × Int)
  | 0, _, _ => none
  | k + 1, x0, x18 => if x18 = true then (some (([] : List ByteArray), 0, 9)) else ((slabvaultref17_parts.f k x0).bind fun t107 => (slabvaultref17_Parse.l0 k ([] : List ByteArray) t107 0))
def slabvaultref17_Parse.l0 : Nat → List ByteArray → List ByteArray → Int → Option (List ByteArray × Int × Int)
  | 0, _, _, _ => none
  | k + 1, x5, x6, x7 => if x7 < (x6.length : Int) then (if 0 ≤ x7 then (if (rdOf ByteArray.empty x6 x7).toList = ([] : List UInt8) then (slabvaultref17_Parse.j2 k x5 x6 x7 true) else (slabvaultref17_Parse.j2 k x5 x6 x7 ((rdOf ByteArray.empty x6 x7).toList == ([46] : List UInt8)))) else (none)) else (some (x5, 0, 0))
def slabvaultref17_Parse.j2 : Nat → List ByteArray → List ByteArray → Int → Bool → Option (List ByteArray × Int × Int)
  | 0, _, _, _, _ => none
  | k + 1, x5, x6, x7, x38 => if x38 = true then (slabvaultref17_Parse.l0 k x5 x6 (wrap64 (x7 + 1))) else (if 0 ≤ x7 then (if x7 < (x6.length : Int) then ((slabvaultref09_Name.f k (rdOf ByteArray.empty x6 x7)).bind fun t113 => (if t113 = true then (if (x5.length : Int) = 16 then (some (([] : List ByteArray), 16, 3)) else (if x5.length < 8796093022208 then (slabvaultref17_Parse.l0 k (x5 ++ [rdOf ByteArray.empty x6 x7]) x6 (wrap64 (x7 + 1))) else (none))) else (some (([] : List ByteArray), (x5.length : Int), 8)))) else (none)) else (none))
end
def slabvaultref17_Parse.f (k : Nat) (a0 : ByteArray) : Option (List ByteArray × Int × Int) := if (a0.size : Int) > 1024 then (some (([] : List ByteArray), 0, 3)) else (if (a0.size : Int) = 0 then (slabvaultref17_Parse.j0 k a0 true) else (if 0 < (a0.size : Int) then (slabvaultref17_Parse.j0 k a0 ((bt a0 0) != 47)) else (none)))
set_option maxHeartbeats 8000000 in
set_option maxRecDepth 100000 in
theorem slabvaultref17_Parse.calls (k : Nat) (a0 : ByteArray) (r1 : List ByteArray) (r2 : Int) (r3 : Int) (w : World) (h : slabvaultref17_Parse.f k a0 = some (r1, r2, r3)) :
    Calls Tryz.prog 84 #[.string a0] w fun e w' => ∃ v0_ : Value, e = .returned (.tuple #[v0_, .int .i64 r2, .int .i64 r3]) ∧ Kd.R Kd.string 9 w' w.heap.size (fun _ => True) v0_ r1 ∧ Below w.heap.size w w' := by
  have HB := Aside0.mk (Below.refl w.heap.size w)
  have H : (if (a0.size : Int) > 1024 then (some (([] : List ByteArray), 0, 3)) else (if (a0.size : Int) = 0 then (slabvaultref17_Parse.j0 k a0 true) else (if 0 < (a0.size : Int) then (slabvaultref17_Parse.j0 k a0 ((bt a0 0) != 47)) else (none)))) = some (r1, r2, r3) := h
  clear h
  by_cases c2 : (a0.size : Int) > 1024
  · rw [if_pos c2] at H
    have c2b0 : decide (1024 < (a0.size : Int)) = true := decide_eq_true c2
    have c2b1 : decide (1024 < a0.size) = true := decide_eq_true (by omega)
    clear c2
    simp only [Option.some.injEq, Prod.mk.injEq] at H
    obtain ⟨rfl, rfl, rfl⟩ := H
    go_enter Tryz.func84, Tryz.ntmps84
    go_wp2
    go_ret3
    exact ⟨_, by first | rfl | (simp [errW_none, errW_some] <;> rfl) | (simp [*, errW_none, errW_some] <;> rfl), by first | exact Kd.R_nil _ _ _ _ _ | exact Kd.N_nil _ _ _ _ _ | exact Kd.V_nil _ _ _ _ _ | exact Kd.Q_nil _ _ _ _ _ | exact Kd.S_nil _ _ _ _ _, by repeat (first | (with_reducible first | exact HB.out | apply below_alloc | apply pw_below_drewN | apply below_drew1) | exact HB.out)⟩
  · rw [if_neg c2] at H
    have c2b0 : decide (1024 < (a0.size : Int)) = false := decide_eq_false c2
    have c2b1 : decide (1024 < a0.size) = false := decide_eq_false (by omega)
    clear c2
    have HC3 := Aside0.mk H
    clear H
    go_enter Tryz.func84, Tryz.ntmps84
    go_upto_region 3 with (fail)
    go_cut [18] (fun v18 wc => ∃ (kq : Nat) (x18_2 : Bool), v18 = .bool x18_2 ∧ Aside0 (slabvaultref17_Parse.j0 kq a0 x18_2 = some (r1, r2, r3)) ∧ Aside0 (kq ≤ k) ∧ Aside0 (Below w.heap.size w wc))
    case first =>
      have H := HC3.out
      clear HC3
      by_cases c4 : (a0.size : Int) = 0
      · rw [if_pos c4] at H
        have c4b0 : ((a0.size : Int) == 0) = true := beq_iff_eq.mpr c4
        have c4b1 : ((a0.size : Int) != 0) = false := bne_eq_false_iff_eq.mpr c4
        clear c4
        (first | rw [c4b0] | (simp only [i64_w, i32_w]; rw [c4b0]) | skip)
        have H' := Aside0.mk H
        clear H
        go_wp2
        go_meet
        case rel => exact ⟨_, (true), (by first | rfl | (simp; done) | (simp [*]; done)), H', ⟨by first | omega | exact Nat.le_refl _⟩, ⟨by repeat (first | (with_reducible first | exact HB.out | apply below_alloc | apply pw_below_drewN | apply below_drew1) | exact HB.out)⟩⟩
      · rw [if_neg c4] at H
        have c4b0 : ((a0.size : Int) == 0) = false := beq_eq_false_iff_ne.mpr c4
        have c4b1 : ((a0.size : Int) != 0) = true := bne_iff_ne.mpr c4
        (first | rw [c4b0] | (simp only [i64_w, i32_w]; rw [c4b0]) | skip)
        by_cases c5 : 0 < (a0.size : Int)
        · rw [if_pos c5] at H
          have c5b0 : decide (0 < (a0.size : Int)) = true := decide_eq_true c5
          have c5b1 : decide (0 < a0.size) = true := decide_eq_true (by omega)
          clear c5
          have H' := Aside0.mk H
          clear H
          have p6 : 0 ≤ (0 : Int) := (by omega)
          have q6 : 0 < a0.size := (by have : (0 : Int) < (a0.size : Int) := of_decide_eq_true (by first | (with_reducible assumption) | assumption); omega)
          have hx6 : ∀ h : 0 < a0.size, ((a0[0]'h).toNat : Int) = bt a0 0 := bt_at a0 0
          clear p6
          have qi6 : (0 < (a0.size : Int)) = True := eq_true (of_decide_eq_true (by first | (with_reducible assumption) | assumption))
          replace q6 := eq_true q6
          go_wp2
          go_meet
          case rel => exact ⟨_, (((bt a0 0) != 47)), (by first | rfl | (simp; done) | (simp [*]; done)), H', ⟨by first | omega | exact Nat.le_refl _⟩, ⟨by repeat (first | (with_reducible first | exact HB.out | apply below_alloc | apply pw_below_drewN | apply below_drew1) | exact HB.out)⟩⟩
        · rw [if_neg c5] at H
          exact absurd H (by simp)
    case rest =>
      clear HC3
      try clear c2
      try clear c2b0
      try clear c2b1
      try clear p2
      try clear c4
      try clear c4b0
      try clear c4b1
      try clear c5
      try clear c5b0
      try clear c5b1
      try clear p6
      try clear q6
      try clear hx6
      try clear qi6
      try clear p6
      try clear q6
      obtain ⟨kq, x18_2, rfl, HA, HJ2, HB⟩ := hcut
      cases kq with
      | zero => exact absurd HA.out (by simp [slabvaultref17_Parse.j0])
      | succ kj2 =>
        have H := HA.out
        clear HA
        simp only [slabvaultref17_Parse.j0] at H
        by_cases c7 : x18_2 = true
        · subst c7
          have H1 : (some (([] : List ByteArray), 0, 9)) = some (r1, r2, r3) := by rw [if_pos rfl] at H; exact H
          clear H
          have H := H1
          clear H1
          simp only [Option.some.injEq, Prod.mk.injEq] at H
          obtain ⟨rfl, rfl, rfl⟩ := H
          go_wp2
          go_ret3
          exact ⟨_, by first | rfl | (simp [errW_none, errW_some] <;> rfl) | (simp [*, errW_none, errW_some] <;> rfl), by first | exact Kd.R_nil _ _ _ _ _ | exact Kd.N_nil _ _ _ _ _ | exact Kd.V_nil _ _ _ _ _ | exact Kd.Q_nil _ _ _ _ _ | exact Kd.S_nil _ _ _ _ _, by repeat (first | (with_reducible first | exact HB.out | apply below_alloc | apply pw_below_drewN | apply below_drew1) | exact HB.out)⟩
        · replace c7 := Bool.eq_false_iff.mpr c7
          subst c7
          have H1 : ((slabvaultref17_parts.f kj2 a0).bind fun t107 => (slabvaultref17_Parse.l0 kj2 ([] : List ByteArray) t107 0)) = some (r1, r2, r3) := by rw [if_neg (show ¬ (false = true) by decide)] at H; exact H
          clear H
          have H := H1
          clear H1
          replace H := Option.bind_eq_some_iff.mp H
          obtain ⟨t107, A80, H⟩ := H
          replace H : (slabvaultref17_Parse.l0 kj2 ([] : List ByteArray) t107 0) = some (r1, r2, r3) := H
          have A8 := Aside0.mk A80
          clear A80
          have H' := Aside0.mk H
          clear H
          go_wp2_with (first | ((with_reducible refine gate_callee (f := 114) rfl ?_); refine goesL_ (some 20) rfl rfl Tryz.func114 (by kernel_rfl) rfl #[.string a0] rfl (by (try simp only [List.map_toArray, List.map_cons, List.map_nil]); first | done | rfl | (simp only [List.length_drop, List.length_take]; rfl)) ?_; (with_reducible refine (slabvaultref17_parts.calls kj2 a0 t107 _ A8.out).mono ?_); rintro e w9 ⟨v108, rfl, ho0, hb⟩; refine ⟨_, rfl, ?_⟩; have n0_ := Aside0.mk (Kd.R_lower ho0 (below_size (by repeat (first | (with_reducible first | exact HB.out | apply below_alloc | apply pw_below_drewN | apply below_drew1) | exact HB.out)))); have n1_ := Aside0.mk (below_step (by repeat (first | (with_reducible first | exact HB.out | apply below_alloc | apply pw_below_drewN | apply below_drew1) | exact HB.out)) hb); clear HB; have HO109 := n0_; have HB := n1_; clear n0_ n1_; (try clear hb); (try clear hb2); (try clear hk); (try clear hi); (try clear ho0)))
          go_loopg [5, 7] kj2 (fun kq v5 v7 w' => ∃ (x5_2 : List ByteArray) (x7_2 : Int), v7 = .int .i64 x7_2 ∧ Aside0 (slabvaultref17_Parse.l0 kq x5_2 t107 x7_2 = some (r1, r2, r3)) ∧ Aside0 (kq ≤ kj2) ∧ Aside0 (Kd.R Kd.string 9 w' w.heap.size (fun k_ => some k_ ≠ (v108 : Value).ownBlock) v5 x5_2) ∧ Aside0 (Kd.R Kd.string 9 w' w.heap.size (fun k_ => some k_ ≠ (v5 : Value).ownBlock) v108 t107) ∧ Aside0 (Below w.heap.size w w'))
          case atStart => exact ⟨(([] : List ByteArray)), (0), (by first | rfl | (simp; done) | (simp [*]; done)), H', ⟨Nat.le_refl _⟩, ⟨by first | exact Kd.R_nil _ _ _ _ _ | exact Kd.N_nil _ _ _ _ _ | exact Kd.V_nil _ _ _ _ _ | exact Kd.Q_nil _ _ _ _ _ | exact Kd.S_nil _ _ _ _ _⟩, ⟨by (with_reducible repeat (first | apply Kd.R_alloc | apply Kd.R_drewN | apply Kd.R_drew)); exact Kd.R_mono HO109.out (fun _ hk => (by simp [Value.ownBlock]))⟩, ⟨by repeat (first | (with_reducible first | exact HB.out | apply below_alloc | apply pw_below_drewN | apply below_drew1) | exact HB.out)⟩⟩
          case round =>
            clear H'
            try clear c1
            try clear c2
            try clear c2b0
            try clear c2b1
            try clear p2
            try clear c4
            try clear c4b0
            try clear c4b1
            try clear c5
            try clear c5b0
            try clear c5b1
            try clear p6
            try clear q6
            try clear hx6
            try clear qi6
            try clear c7
            try clear c8
            try clear p2
            try clear p6
            try clear q6
            obtain ⟨x5_2, x7_2, rfl, HA, HK2, HO_5, HO_6, HB⟩ := hrel
            cases gk with
            | zero => exact absurd HA.out (by simp [slabvaultref17_Parse.l0])
            | succ k2 =>
              have H := HA.out
              clear HA
              simp only [slabvaultref17_Parse.l0] at H
              by_cases c10 : x7_2 < (t107.length : Int)
              · rw [if_pos c10] at H
                have c10b0 : decide (x7_2 < (t107.length : Int)) = true := decide_eq_true c10
                clear c10
                have HC11 := Aside0.mk H
                clear H
                obtain ⟨Ao12, co12, eo12⟩ := Kd.R_slice HO_6.out
                subst eo12
                go_upto_region 10 with (fail)
                go_cut [38] (fun v38 wc => ∃ (kq : Nat) (x38_10 : Bool), v38 = .bool x38_10 ∧ Aside0 (slabvaultref17_Parse.j2 kq x5_2 t107 x7_2 x38_10 = some (r1, r2, r3)) ∧ Aside0 (kq ≤ k2) ∧ Aside0 (Kd.R Kd.string 9 wc w.heap.size (fun k_ => some k_ ≠ ((.slice Ao12 t107.length co12) : Value).ownBlock) u5 x5_2) ∧ Aside0 (Kd.R Kd.string 9 wc w.heap.size (fun k_ => some k_ ≠ (u5 : Value).ownBlock) (.slice Ao12 t107.length co12) t107) ∧ Aside0 (Below w.heap.size w wc))
                case first =>
                  have H := HC11.out
                  clear HC11
                  by_cases c13 : 0 ≤ x7_2
                  · rw [if_pos c13] at H
                    have c13b0 : decide (0 ≤ x7_2) = true := decide_eq_true c13
                    clear c13
                    (first | rw [c13b0] | (simp only [i64_w, i32_w]; rw [c13b0]) | skip)
                    by_cases c14 : (rdOf ByteArray.empty t107 x7_2).toList = ([] : List UInt8)
                    · rw [if_pos c14] at H
                      have c14b0 : ((rdOf ByteArray.empty t107 x7_2).toList == ([] : List UInt8)) = true := beq_iff_eq.mpr c14
                      have c14b1 : ((rdOf ByteArray.empty t107 x7_2).toList != ([] : List UInt8)) = false := bne_eq_false_iff_eq.mpr c14
                      clear c14
                      have H' := Aside0.mk H
                      clear H
                      have p110 : 0 ≤ (x7_2 : Int) := of_decide_eq_true (by first | (with_reducible assumption) | assumption)
                      have q110 : x7_2 < (t107.length : Int) := of_decide_eq_true (by first | (with_reducible assumption) | assumption)
                      obtain ⟨ad110, e110, hx110_0⟩ := Kd.at_string (Kd.R_reads' HO_6.out).2.2 x7_2 p110 q110
                      cases e110
                      replace p110 := eq_true p110
                      replace q110 := eq_true q110
                      go_wp2
                      go_meet
                      case rel => exact ⟨_, (true), (by first | rfl | (simp; done) | (simp [*]; done)), H', ⟨by have := HJ2.out; have := HK2.out; first | omega | exact Nat.le_refl _⟩, ⟨by (with_reducible repeat (first | apply Kd.R_alloc | apply Kd.R_drewN | apply Kd.R_drew)); exact HO_5.out⟩, ⟨by (with_reducible repeat (first | apply Kd.R_alloc | apply Kd.R_drewN | apply Kd.R_drew)); exact HO_6.out⟩, ⟨by repeat (first | (with_reducible first | exact HB.out | apply below_alloc | apply pw_below_drewN | apply below_drew1) | exact HB.out)⟩⟩
                    · rw [if_neg c14] at H
                      have c14b0 : ((rdOf ByteArray.empty t107 x7_2).toList == ([] : List UInt8)) = false := beq_eq_false_iff_ne.mpr c14
                      have c14b1 : ((rdOf ByteArray.empty t107 x7_2).toList != ([] : List UInt8)) = true := bne_iff_ne.mpr c14
                      have H' := Aside0.mk H
                      clear H
                      have p110 : 0 ≤ (x7_2 : Int) := of_decide_eq_true (by first | (with_reducible assumption) | assumption)
                      have q110 : x7_2 < (t107.length : Int) := of_decide_eq_true (by first | (with_reducible assumption) | assumption)
                      obtain ⟨ad110, e110, hx110_0⟩ := Kd.at_string (Kd.R_reads' HO_6.out).2.2 x7_2 p110 q110
                      cases e110
                      replace p110 := eq_true p110
                      replace q110 := eq_true q110
                      have p111 : 0 ≤ (x7_2 : Int) := of_decide_eq_true (by first | (with_reducible assumption) | assumption)
                      have q111 : x7_2 < (t107.length : Int) := of_decide_eq_true (by first | (with_reducible assumption) | assumption)
                      obtain ⟨ad111, e111, hx111_0⟩ := Kd.at_string (Kd.R_reads' HO_6.out).2.2 x7_2 p111 q111
                      obtain rfl : ad110 = ad111 := (by injection e111)
                      replace p111 := eq_true p111
                      replace q111 := eq_true q111
                      go_wp2
                      go_meet
                      case rel => exact ⟨_, (((rdOf ByteArray.empty t107 x7_2).toList == ([46] : List UInt8))), (by first | rfl | (simp; done) | (simp [*]; done)), H', ⟨by have := HJ2.out; have := HK2.out; first | omega | exact Nat.le_refl _⟩, ⟨by (with_reducible repeat (first | apply Kd.R_alloc | apply Kd.R_drewN | apply Kd.R_drew)); exact HO_5.out⟩, ⟨by (with_reducible repeat (first | apply Kd.R_alloc | apply Kd.R_drewN | apply Kd.R_drew)); exact HO_6.out⟩, ⟨by repeat (first | (with_reducible first | exact HB.out | apply below_alloc | apply pw_below_drewN | apply below_drew1) | exact HB.out)⟩⟩
                  · rw [if_neg c13] at H
                    exact absurd H (by simp)
                case rest =>
                  clear HC11
                  try clear c1
                  try clear p1
                  try clear q1
                  try clear hx1
                  try clear c2
                  try clear c2b0
                  try clear c2b1
                  try clear p2
                  try clear c4
                  try clear c4b0
                  try clear c4b1
                  try clear c5
                  try clear c5b0
                  try clear c5b1
                  try clear p6
                  try clear q6
                  try clear hx6
                  try clear qi6
                  try clear c7
                  try clear c8
                  try clear c10
                  try clear c10b0
                  try clear c11
                  try clear p11
                  try clear q11
                  try clear hx11
                  try clear c13
                  try clear c13b0
                  try clear c14
                  try clear c14b0
                  try clear c14b1
                  try clear hx110_0
                  try clear hx111_0
                  try clear p110
                  try clear p111
                  try clear p2
                  try clear p6
                  try clear q110
                  try clear q111
                  try clear q6
                  obtain ⟨kq, x38_10, rfl, HA, HJ10, HO_5, HO_6, HB⟩ := hcut
                  cases kq with
                  | zero => exact absurd HA.out (by simp [slabvaultref17_Parse.j2])
                  | succ kj10 =>
                    have H := HA.out
                    clear HA
                    simp only [slabvaultref17_Parse.j2] at H
                    by_cases c15 : x38_10 = true
                    · subst c15
                      have H1 : (slabvaultref17_Parse.l0 kj10 x5_2 t107 (wrap64 (x7_2 + 1))) = some (r1, r2, r3) := by rw [if_pos rfl] at H; exact H
                      clear H
                      have H := H1
                      clear H1
                      have H' := Aside0.mk H
                      clear H
                      go_wp2
                      go_roundg kj10
                      case measure => have := HJ2.out; have := HK2.out; have := HJ10.out; omega
                      case rel => exact ⟨(x5_2), (wrap64 (x7_2 + 1)), (by first | rfl | (simp; done) | (simp [*]; done)), H', ⟨by have := HJ2.out; have := HK2.out; have := HJ10.out; omega⟩, ⟨by (with_reducible repeat (first | apply Kd.R_alloc | apply Kd.R_drewN | apply Kd.R_drew)); exact HO_5.out⟩, ⟨by (with_reducible repeat (first | apply Kd.R_alloc | apply Kd.R_drewN | apply Kd.R_drew)); exact HO_6.out⟩, ⟨by repeat (first | (with_reducible first | exact HB.out | apply below_alloc | apply pw_below_drewN | apply below_drew1) | exact HB.out)⟩⟩
                    · replace c15 := Bool.eq_false_iff.mpr c15
                      subst c15
                      have H1 : (if 0 ≤ x7_2 then (if x7_2 < (t107.length : Int) then ((slabvaultref09_Name.f kj10 (rdOf ByteArray.empty t107 x7_2)).bind fun t113 => (if t113 = true then (if (x5_2.length : Int) = 16 then (some (([] : List ByteArray), 16, 3)) else (if x5_2.length < 8796093022208 then (slabvaultref17_Parse.l0 kj10 (x5_2 ++ [rdOf ByteArray.empty t107 x7_2]) t107 (wrap64 (x7_2 + 1))) else (none))) else (some (([] : List ByteArray), (x5_2.length : Int), 8)))) else (none)) else (none)) = some (r1, r2, r3) := by rw [if_neg (show ¬ (false = true) by decide)] at H; exact H
                      clear H
                      have H := H1
                      clear H1
                      by_cases c16 : 0 ≤ x7_2
                      · rw [if_pos c16] at H
                        have c16b0 : decide (0 ≤ x7_2) = true := decide_eq_true c16
                        clear c16
                        by_cases c17 : x7_2 < (t107.length : Int)
                        · rw [if_pos c17] at H
                          have c17b0 : decide (x7_2 < (t107.length : Int)) = true := decide_eq_true c17
                          clear c17
                          replace H := Option.bind_eq_some_iff.mp H
                          obtain ⟨t113, A180, H⟩ := H
                          replace H : (if t113 = true then (if (x5_2.length : Int) = 16 then (some (([] : List ByteArray), 16, 3)) else (if x5_2.length < 8796093022208 then (slabvaultref17_Parse.l0 kj10 (x5_2 ++ [rdOf ByteArray.empty t107 x7_2]) t107 (wrap64 (x7_2 + 1))) else (none))) else (some (([] : List ByteArray), (x5_2.length : Int), 8))) = some (r1, r2, r3) := H
                          have A18 := Aside0.mk A180
                          clear A180
                          by_cases c19 : t113 = true
                          · subst c19
                            have H1 : (if (x5_2.length : Int) = 16 then (some (([] : List ByteArray), 16, 3)) else (if x5_2.length < 8796093022208 then (slabvaultref17_Parse.l0 kj10 (x5_2 ++ [rdOf ByteArray.empty t107 x7_2]) t107 (wrap64 (x7_2 + 1))) else (none))) = some (r1, r2, r3) := by rw [if_pos rfl] at H; exact H
                            clear H
                            have H := H1
                            clear H1
                            by_cases c20 : (x5_2.length : Int) = 16
                            · rw [if_pos c20] at H
                              have c20b0 : ((x5_2.length : Int) == 16) = true := beq_iff_eq.mpr c20
                              have c20b1 : ((x5_2.length : Int) != 16) = false := bne_eq_false_iff_eq.mpr c20
                              clear c20
                              simp only [Option.some.injEq, Prod.mk.injEq] at H
                              obtain ⟨rfl, rfl, rfl⟩ := H
                              have p112 : 0 ≤ (x7_2 : Int) := of_decide_eq_true (by first | (with_reducible assumption) | assumption)
                              have q112 : x7_2 < (t107.length : Int) := of_decide_eq_true (by first | (with_reducible assumption) | assumption)
                              obtain ⟨ad112, e112, hx112_0⟩ := Kd.at_string (Kd.R_reads' HO_6.out).2.2 x7_2 p112 q112
                              cases e112
                              replace p112 := eq_true p112
                              replace q112 := eq_true q112
                              go_wp2_with (first | ((with_reducible refine gate_callee (f := 82) rfl ?_); refine goesL_ (some 43) rfl rfl Tryz.func82 (by kernel_rfl) rfl #[.string (rdOf ByteArray.empty t107 x7_2)] rfl (by (try simp only [List.map_toArray, List.map_cons, List.map_nil]); first | done | rfl | (simp only [List.length_drop, List.length_take]; rfl)) ?_; (with_reducible refine (slabvaultref09_Name.calls kj10 (rdOf ByteArray.empty t107 x7_2) true _ A18.out).mono ?_); rintro e w' ⟨rfl, ⟨nd, rfl⟩⟩; refine ⟨_, rfl, ?_⟩; obtain ⟨Ao21, co21, eo21⟩ := Kd.R_slice HO_5.out; subst eo21))
                              go_ret3
                              exact ⟨_, by first | rfl | (simp [errW_none, errW_some] <;> rfl) | (simp [*, errW_none, errW_some] <;> rfl), by first | exact Kd.R_nil _ _ _ _ _ | exact Kd.N_nil _ _ _ _ _ | exact Kd.V_nil _ _ _ _ _ | exact Kd.Q_nil _ _ _ _ _ | exact Kd.S_nil _ _ _ _ _, by repeat (first | (with_reducible first | exact HB.out | apply below_alloc | apply pw_below_drewN | apply below_drew1) | exact HB.out)⟩
                            · rw [if_neg c20] at H
                              have c20b0 : ((x5_2.length : Int) == 16) = false := beq_eq_false_iff_ne.mpr c20
                              have c20b1 : ((x5_2.length : Int) != 16) = true := bne_iff_ne.mpr c20
                              by_cases c22 : x5_2.length < 8796093022208
                              · rw [if_pos c22] at H
                                have LMc22 := Aside0.mk c22
                                clear c22
                                obtain ⟨y115, hy115⟩ : ∃ y_ : List ByteArray, y_ = (x5_2 ++ [rdOf ByteArray.empty t107 x7_2]) := ⟨_, rfl⟩
                                replace H : (slabvaultref17_Parse.l0 kj10 y115 t107 (wrap64 (x7_2 + 1))) = some (r1, r2, r3) := by first | (rw [hy115]; with_reducible exact H) | (have H2_ := (Option.bind_some _ _).symm.trans H; rw [hy115]; with_reducible exact H2_) | (have H2_ := (Option.bind_some _ _).symm.trans H; with_reducible exact H2_) | with_reducible exact H | (rw [hy115]; exact H) | exact H
                                have Ny115 := Aside0.mk hy115
                                clear hy115
                                have H' := Aside0.mk H
                                clear H
                                have p112 : 0 ≤ (x7_2 : Int) := of_decide_eq_true (by first | (with_reducible assumption) | assumption)
                                have q112 : x7_2 < (t107.length : Int) := of_decide_eq_true (by first | (with_reducible assumption) | assumption)
                                obtain ⟨ad112, e112, hx112_0⟩ := Kd.at_string (Kd.R_reads' HO_6.out).2.2 x7_2 p112 q112
                                cases e112
                                replace p112 := eq_true p112
                                replace q112 := eq_true q112
                                go_wp2_with (first | ((with_reducible refine gate_callee (f := 82) rfl ?_); refine goesL_ (some 43) rfl rfl Tryz.func82 (by kernel_rfl) rfl #[.string (rdOf ByteArray.empty t107 x7_2)] rfl (by (try simp only [List.map_toArray, List.map_cons, List.map_nil]); first | done | rfl | (simp only [List.length_drop, List.length_take]; rfl)) ?_; (with_reducible refine (slabvaultref09_Name.calls kj10 (rdOf ByteArray.empty t107 x7_2) true _ A18.out).mono ?_); rintro e w' ⟨rfl, ⟨nd, rfl⟩⟩; refine ⟨_, rfl, ?_⟩; obtain ⟨Ao23, co23, eo23⟩ := Kd.R_slice HO_5.out; subst eo23; have p114 : 0 ≤ (x7_2 : Int) := of_decide_eq_true (by first | (with_reducible assumption) | assumption); have q114 : x7_2 < (t107.length : Int) := of_decide_eq_true (by first | (with_reducible assumption) | assumption); obtain ⟨ad114, e114, hx114_0⟩ := Kd.at_string (Kd.R_reads' HO_6.out).2.2 x7_2 p114 q114; obtain rfl : ad112 = ad114 := (by injection e114); replace p114 := eq_true p114; replace q114 := eq_true q114) | ((with_reducible refine gate_builtin (b := .append) (xs := #[.tmp 50, .tmp 55]) rfl ?_); at_builtin; refine Kd.R_append Kd.string (w0 := w) w.heap.size rfl (.tmp 50) (.tmp 55) 77 9 (.string ⟨#[]⟩) 16 rfl Tryz.underlying77 info9 rfl (by decide) (by omega) (.slice Ao23 x5_2.length co23) x5_2 (rdOf ByteArray.empty t107 x7_2) [.string (rdOf ByteArray.empty t107 x7_2)] (fun k_ => some k_ ≠ (.slice (some ad112) t107.length co12 : Value).ownBlock) (fun _ => False) rfl rfl ?aP (fun _ hk => hk.elim) ?aF ?aO ?aB ?aS ?aL ?_; (case aP => exact rfl); (case aB => exact (by repeat (first | (with_reducible first | exact HB.out | apply below_alloc | apply pw_below_drewN | apply below_drew1) | exact HB.out))); (case aF => exact (fun k_ hk => Kd.fresh' (Kd.R_lt (by (with_reducible repeat (first | apply Kd.R_alloc | apply Kd.R_drewN | apply Kd.R_drew)); exact HO_6.out)) k_ hk)); (case aO => exact (by (with_reducible repeat (first | apply Kd.R_alloc | apply Kd.R_drewN | apply Kd.R_drew)); exact HO_5.out)); (case aS => exact (below_size (by repeat (first | (with_reducible first | exact HB.out | apply below_alloc | apply pw_below_drewN | apply below_drew1) | exact HB.out)))); (case aL => have := LMc22.out; omega); intro v116 w24 ho hb hg hat; rw [← Ny115.out] at ho; have n0_ := Aside0.mk (Kd.R_after (ok := (fun _ => True)) (by (with_reducible repeat (first | apply Kd.R_alloc | apply Kd.R_drewN | apply Kd.R_drew)); exact Kd.R_mono HO_6.out (fun _ hk => ⟨trivial, hk⟩)) hg hat); have n1_ := Aside0.mk (hb); have n2_ := Aside0.mk (ho); clear HO_6; clear HB; clear HO_5; have HO_6 := n0_; have HB := n1_; have HO117 := n2_; clear n0_ n1_ n2_; clear ho hb hg hat))
                                go_roundg kj10
                                case measure => have := HJ2.out; have := HK2.out; have := HJ10.out; omega
                                case rel => exact ⟨(y115), (wrap64 (x7_2 + 1)), (by first | rfl | (simp; done) | (simp [*]; done)), H', ⟨by have := HJ2.out; have := HK2.out; have := HJ10.out; omega⟩, ⟨by (with_reducible repeat (first | apply Kd.R_alloc | apply Kd.R_drewN | apply Kd.R_drew)); exact HO117.out⟩, ⟨by (with_reducible repeat (first | apply Kd.R_alloc | apply Kd.R_drewN | apply Kd.R_drew)); exact Kd.R_mono HO_6.out (fun _ hk => hk.2)⟩, ⟨by repeat (first | (with_reducible first | exact HB.out | apply below_alloc | apply pw_below_drewN | apply below_drew1) | exact HB.out)⟩⟩
                              · rw [if_neg c22] at H
                                exact absurd H (by simp)
                          · replace c19 := Bool.eq_false_iff.mpr c19
                            subst c19
                            have H1 : (some (([] : List ByteArray), (x5_2.length : Int), 8)) = some (r1, r2, r3) := by rw [if_neg (show ¬ (false = true) by decide)] at H; exact H
                            clear H
                            have H := H1
                            clear H1
                            simp only [Option.some.injEq, Prod.mk.injEq] at H
                            obtain ⟨rfl, rfl, rfl⟩ := H
                            have p112 : 0 ≤ (x7_2 : Int) := of_decide_eq_true (by first | (with_reducible assumption) | assumption)
                            have q112 : x7_2 < (t107.length : Int) := of_decide_eq_true (by first | (with_reducible assumption) | assumption)
                            obtain ⟨ad112, e112, hx112_0⟩ := Kd.at_string (Kd.R_reads' HO_6.out).2.2 x7_2 p112 q112
                            cases e112
                            replace p112 := eq_true p112
                            replace q112 := eq_true q112
                            go_wp2_with (first | ((with_reducible refine gate_callee (f := 82) rfl ?_); refine goesL_ (some 43) rfl rfl Tryz.func82 (by kernel_rfl) rfl #[.string (rdOf ByteArray.empty t107 x7_2)] rfl (by (try simp only [List.map_toArray, List.map_cons, List.map_nil]); first | done | rfl | (simp only [List.length_drop, List.length_take]; rfl)) ?_; (with_reducible refine (slabvaultref09_Name.calls kj10 (rdOf ByteArray.empty t107 x7_2) false _ A18.out).mono ?_); rintro e w' ⟨rfl, ⟨nd, rfl⟩⟩; refine ⟨_, rfl, ?_⟩; obtain ⟨Ao25, co25, eo25⟩ := Kd.R_slice HO_5.out; subst eo25))
                            go_ret3
                            exact ⟨_, by first | rfl | (simp [errW_none, errW_some] <;> rfl) | (simp [*, errW_none, errW_some] <;> rfl), by first | exact Kd.R_nil _ _ _ _ _ | exact Kd.N_nil _ _ _ _ _ | exact Kd.V_nil _ _ _ _ _ | exact Kd.Q_nil _ _ _ _ _ | exact Kd.S_nil _ _ _ _ _, by repeat (first | (with_reducible first | exact HB.out | apply below_alloc | apply pw_below_drewN | apply below_drew1) | exact HB.out)⟩
                        · rw [if_neg c17] at H
                          exact absurd H (by simp)
                      · rw [if_neg c16] at H
                        exact absurd H (by simp)
              · rw [if_neg c10] at H
                have c10b0 : decide (x7_2 < (t107.length : Int)) = false := decide_eq_false c10
                clear c10
                simp only [Option.some.injEq, Prod.mk.injEq] at H
                obtain ⟨rfl, rfl, rfl⟩ := H
                obtain ⟨Ao26, co26, eo26⟩ := Kd.R_slice HO_6.out
                subst eo26
                go_wp2
                go_ret3
                exact ⟨_, by first | rfl | (simp [errW_none, errW_some] <;> rfl) | (simp [*, errW_none, errW_some] <;> rfl), by (with_reducible repeat (first | apply Kd.R_alloc | apply Kd.R_drewN | apply Kd.R_drew)); exact Kd.R_mono HO_5.out (fun _ hk => trivial), by repeat (first | (with_reducible first | exact HB.out | apply below_alloc | apply pw_below_drewN | apply below_drew1) | exact HB.out)⟩
end Go.Proofs.YthifdofdoeaemaaGreatDoor.Wk
end
section
namespace Go.Proofs.YthifdofdoeaemaaGreatDoor.Wk
open Go.RowKit Go.Proofs.YthifdofdoeaemaaGreatDoorW.PrintWords Go.Proofs.YthifdofdoeaemaaGreatDoorW.PrintLast Go.Proofs.YthifdofdoeaemaaGreatDoorW.PrintMore
attribute [local go_sem] max2_int min2_int max_two min_two max_three min_three max_four min_four
set_option linter.unusedVariables false
set_option linter.unusedSimpArgs false
def slabvaultref07_sign.f (a0 : Int) : Option (Int) := if a0 < 0 then (some (-1)) else (if a0 > 0 then (some 1) else (some 0))
set_option maxHeartbeats 8000000 in
set_option maxRecDepth 100000 in
theorem slabvaultref07_sign.calls (a0 : Int) (r : Int) (w : World) (h : slabvaultref07_sign.f a0 = some r) :
    Calls Tryz.prog 113 #[.int .i64 a0] w fun e w' => e = .returned (.int .i64 r) ∧ Drawn0 w w' := by
  have H : (if a0 < 0 then (some (-1)) else (if a0 > 0 then (some 1) else (some 0))) = some r := h
  clear h
  by_cases c2 : a0 < 0
  · rw [if_pos c2] at H
    have c2b0 : decide (a0 < 0) = true := decide_eq_true c2
    clear c2
    obtain rfl := Option.some.inj H
    go_enter Tryz.func113, Tryz.ntmps113
    go_wp2
    go_ret
    exact ⟨by first | rfl | (simp; done) | (simp [*]; done), by repeat (first | exact Drawn0.refl _ | apply Drawn0.step)⟩
  · rw [if_neg c2] at H
    have c2b0 : decide (a0 < 0) = false := decide_eq_false c2
    clear c2
    by_cases c3 : a0 > 0
    · rw [if_pos c3] at H
      have c3b0 : decide (0 < a0) = true := decide_eq_true c3
      clear c3
      obtain rfl := Option.some.inj H
      go_enter Tryz.func113, Tryz.ntmps113
      go_wp2
      go_ret
      exact ⟨by first | rfl | (simp; done) | (simp [*]; done), by repeat (first | exact Drawn0.refl _ | apply Drawn0.step)⟩
    · rw [if_neg c3] at H
      have c3b0 : decide (0 < a0) = false := decide_eq_false c3
      clear c3
      obtain rfl := Option.some.inj H
      go_enter Tryz.func113, Tryz.ntmps113
      go_wp2
      go_ret
      exact ⟨by first | rfl | (simp; done) | (simp [*]; done), by repeat (first | exact Drawn0.refl _ | apply Drawn0.step)⟩
end Go.Proofs.YthifdofdoeaemaaGreatDoor.Wk
end
section
namespace Go.Proofs.YthifdofdoeaemaaGreatDoor.Wk
open Go.RowKit Go.Proofs.YthifdofdoeaemaaGreatDoorW.PrintWords Go.Proofs.YthifdofdoeaemaaGreatDoorW.PrintLast Go.Proofs.YthifdofdoeaemaaGreatDoorW.PrintMore
attribute [local go_sem] max2_int min2_int max_two min_two max_three min_three max_four min_four
set_option linter.unusedVariables false
set_option linter.unusedSimpArgs false
mutual
def slabvaultref07_CmpNames.l0 : Nat → ByteArray → ByteArray → Int → Option (Int)
  | 0, _, _, _ => none
  | k + 1, x0, x1, x5 => if x5 < (x0.size : Int) then (slabvaultref07_CmpNames.j1 k x0 x1 x5 (decide (x5 < (x1.size : Int)))) else (slabvaultref07_CmpNames.j1 k x0 x1 x5 false)
def slabvaultref07_CmpNames.j1 : Nat → ByteArray → ByteArray → Int → Bool → Option (Int)
  | 0, _, _, _, _ => none
  | k + 1, x0, x1, x5, x15 => if x15 = true then (if 0 ≤ x5 then (if x5 < (x0.size : Int) then (if x5 < (x1.size : Int) then (if (bt x0 x5) < (bt x1 x5) then (some (-1)) else (if (bt x0 x5) > (bt x1 x5) then (some 1) else (slabvaultref07_CmpNames.l0 k x0 x1 (wrap64 (x5 + 1))))) else (none)) else (none)) else (none)) else ((slabvaultref07_sign.f (wrap64 ((x0.size : Int) - (x1.size : Int)))).bind fun t118 => (some t118))
end
def slabvaultref07_CmpNames.f (k : Nat) (a0 : ByteArray) (a1 : ByteArray) : Option (Int) := slabvaultref07_CmpNames.l0 k a0 a1 0
set_option maxHeartbeats 8000000 in
set_option maxRecDepth 100000 in
theorem slabvaultref07_CmpNames.calls (k : Nat) (a0 : ByteArray) (a1 : ByteArray) (r : Int) (w : World) (h : slabvaultref07_CmpNames.f k a0 a1 = some r) :
    Calls Tryz.prog 83 #[.string a0, .string a1] w fun e w' => e = .returned (.int .i64 r) ∧ Drawn0 w w' := by
  have H : (slabvaultref07_CmpNames.l0 k a0 a1 0) = some r := h
  clear h
  have H' := Aside0.mk H
  clear H
  go_enter Tryz.func83, Tryz.ntmps83
  go_wp2
  repeat (go_quiet (fail); try go_wp2)
  go_loopg [5] k (fun kq v5 w' => ∃ (x5_1 : Int), v5 = .int .i64 x5_1 ∧ Aside0 (slabvaultref07_CmpNames.l0 kq a0 a1 x5_1 = some r) ∧ Aside0 (kq ≤ k) ∧ Drawn0 w w')
  case atStart => exact ⟨(0), (by first | rfl | (simp; done) | (simp [*]; done)), H', ⟨Nat.le_refl _⟩, by repeat (first | exact Drawn0.refl _ | apply Drawn0.step)⟩
  case round =>
    clear H'
    try clear p2
    obtain ⟨x5_1, rfl, HA, HK1, ⟨m1, rfl⟩⟩ := hrel
    cases gk with
    | zero => exact absurd HA.out (by simp [slabvaultref07_CmpNames.l0])
    | succ k1 =>
      have H := HA.out
      clear HA
      simp only [slabvaultref07_CmpNames.l0] at H
      have HC3 := Aside0.mk H
      clear H
      go_upto_region 2 with (fail)
      repeat (go_quiet (fail); go_upto_region 2 with (fail))
      go_cut [15] (fun v15 wc => ∃ (kq : Nat) (x15_2 : Bool), v15 = .bool x15_2 ∧ Aside0 (slabvaultref07_CmpNames.j1 kq a0 a1 x5_1 x15_2 = some r) ∧ Aside0 (kq ≤ k1) ∧ Drawn0 w wc)
      case first =>
        have H := HC3.out
        clear HC3
        by_cases c4 : x5_1 < (a0.size : Int)
        · rw [if_pos c4] at H
          have c4b0 : decide (x5_1 < (a0.size : Int)) = true := decide_eq_true c4
          clear c4
          (first | rw [c4b0] | (simp only [i64_w, i32_w]; rw [c4b0]) | skip)
          have H' := Aside0.mk H
          clear H
          go_wp2
          repeat (go_quiet (fail); try go_wp2)
          go_meet
          case rel => exact ⟨_, (decide (x5_1 < (a1.size : Int))), (by first | rfl | (simp; done) | (simp [*]; done)), H', ⟨by have := HK1.out; first | omega | exact Nat.le_refl _⟩, by repeat (first | exact Drawn0.refl _ | apply Drawn0.step)⟩
        · rw [if_neg c4] at H
          have c4b0 : decide (x5_1 < (a0.size : Int)) = false := decide_eq_false c4
          clear c4
          (first | rw [c4b0] | (simp only [i64_w, i32_w]; rw [c4b0]) | skip)
          have H' := Aside0.mk H
          clear H
          go_wp2
          repeat (go_quiet (fail); try go_wp2)
          go_meet
          case rel => exact ⟨_, (false), (by first | rfl | (simp; done) | (simp [*]; done)), H', ⟨by have := HK1.out; first | omega | exact Nat.le_refl _⟩, by repeat (first | exact Drawn0.refl _ | apply Drawn0.step)⟩
      case rest =>
        clear HC3
        try clear p2
        try clear c4
        try clear c4b0
        try clear p2
        obtain ⟨kq, x15_2, rfl, HA, HJ2, ⟨mc2, rfl⟩⟩ := hcut
        cases kq with
        | zero => exact absurd HA.out (by simp [slabvaultref07_CmpNames.j1])
        | succ kj2 =>
          have H := HA.out
          clear HA
          simp only [slabvaultref07_CmpNames.j1] at H
          by_cases c5 : x15_2 = true
          · subst c5
            have H1 : (if 0 ≤ x5_1 then (if x5_1 < (a0.size : Int) then (if x5_1 < (a1.size : Int) then (if (bt a0 x5_1) < (bt a1 x5_1) then (some (-1)) else (if (bt a0 x5_1) > (bt a1 x5_1) then (some 1) else (slabvaultref07_CmpNames.l0 kj2 a0 a1 (wrap64 (x5_1 + 1))))) else (none)) else (none)) else (none)) = some r := by rw [if_pos rfl] at H; exact H
            clear H
            have H := H1
            clear H1
            by_cases c6 : 0 ≤ x5_1
            · rw [if_pos c6] at H
              have c6b0 : decide (0 ≤ x5_1) = true := decide_eq_true c6
              clear c6
              by_cases c7 : x5_1 < (a0.size : Int)
              · rw [if_pos c7] at H
                have c7b0 : decide (x5_1 < (a0.size : Int)) = true := decide_eq_true c7
                clear c7
                by_cases c9 : x5_1 < (a1.size : Int)
                · rw [if_pos c9] at H
                  have c9b0 : decide (x5_1 < (a1.size : Int)) = true := decide_eq_true c9
                  clear c9
                  by_cases c11 : (bt a0 x5_1) < (bt a1 x5_1)
                  · rw [if_pos c11] at H
                    have c11b0 : decide ((bt a0 x5_1) < (bt a1 x5_1)) = true := decide_eq_true c11
                    clear c11
                    obtain rfl := Option.some.inj H
                    have p8 : 0 ≤ (x5_1 : Int) := of_decide_eq_true (by first | (with_reducible assumption) | assumption)
                    have q8 : x5_1 < (a0.size : Int) := of_decide_eq_true (by first | (with_reducible assumption) | assumption)
                    have hx8 := bt_at a0 x5_1
                    replace p8 := eq_true p8
                    replace q8 := eq_true q8
                    have p10 : 0 ≤ (x5_1 : Int) := of_decide_eq_true (by first | (with_reducible assumption) | assumption)
                    have q10 : x5_1 < (a1.size : Int) := of_decide_eq_true (by first | (with_reducible assumption) | assumption)
                    have hx10 := bt_at a1 x5_1
                    replace p10 := eq_true p10
                    replace q10 := eq_true q10
                    go_wp2
                    repeat (go_quiet (fail); try go_wp2)
                    go_ret
                    exact ⟨by first | rfl | (simp; done) | (simp [*]; done), by repeat (first | exact Drawn0.refl _ | apply Drawn0.step)⟩
                  · rw [if_neg c11] at H
                    have c11b0 : decide ((bt a0 x5_1) < (bt a1 x5_1)) = false := decide_eq_false c11
                    clear c11
                    by_cases c14 : (bt a0 x5_1) > (bt a1 x5_1)
                    · rw [if_pos c14] at H
                      have c14b0 : decide ((bt a1 x5_1) < (bt a0 x5_1)) = true := decide_eq_true c14
                      clear c14
                      obtain rfl := Option.some.inj H
                      have p8 : 0 ≤ (x5_1 : Int) := of_decide_eq_true (by first | (with_reducible assumption) | assumption)
                      have q8 : x5_1 < (a0.size : Int) := of_decide_eq_true (by first | (with_reducible assumption) | assumption)
                      have hx8 := bt_at a0 x5_1
                      replace p8 := eq_true p8
                      replace q8 := eq_true q8
                      have p10 : 0 ≤ (x5_1 : Int) := of_decide_eq_true (by first | (with_reducible assumption) | assumption)
                      have q10 : x5_1 < (a1.size : Int) := of_decide_eq_true (by first | (with_reducible assumption) | assumption)
                      have hx10 := bt_at a1 x5_1
                      replace p10 := eq_true p10
                      replace q10 := eq_true q10
                      have p12 : 0 ≤ (x5_1 : Int) := of_decide_eq_true (by first | (with_reducible assumption) | assumption)
                      have q12 : x5_1 < (a0.size : Int) := of_decide_eq_true (by first | (with_reducible assumption) | assumption)
                      have hx12 := bt_at a0 x5_1
                      replace p12 := eq_true p12
                      replace q12 := eq_true q12
                      have p13 : 0 ≤ (x5_1 : Int) := of_decide_eq_true (by first | (with_reducible assumption) | assumption)
                      have q13 : x5_1 < (a1.size : Int) := of_decide_eq_true (by first | (with_reducible assumption) | assumption)
                      have hx13 := bt_at a1 x5_1
                      replace p13 := eq_true p13
                      replace q13 := eq_true q13
                      go_wp2
                      repeat (go_quiet (fail); try go_wp2)
                      go_ret
                      exact ⟨by first | rfl | (simp; done) | (simp [*]; done), by repeat (first | exact Drawn0.refl _ | apply Drawn0.step)⟩
                    · rw [if_neg c14] at H
                      have c14b0 : decide ((bt a1 x5_1) < (bt a0 x5_1)) = false := decide_eq_false c14
                      clear c14
                      have H' := Aside0.mk H
                      clear H
                      have p8 : 0 ≤ (x5_1 : Int) := of_decide_eq_true (by first | (with_reducible assumption) | assumption)
                      have q8 : x5_1 < (a0.size : Int) := of_decide_eq_true (by first | (with_reducible assumption) | assumption)
                      have hx8 := bt_at a0 x5_1
                      replace p8 := eq_true p8
                      replace q8 := eq_true q8
                      have p10 : 0 ≤ (x5_1 : Int) := of_decide_eq_true (by first | (with_reducible assumption) | assumption)
                      have q10 : x5_1 < (a1.size : Int) := of_decide_eq_true (by first | (with_reducible assumption) | assumption)
                      have hx10 := bt_at a1 x5_1
                      replace p10 := eq_true p10
                      replace q10 := eq_true q10
                      have p12 : 0 ≤ (x5_1 : Int) := of_decide_eq_true (by first | (with_reducible assumption) | assumption)
                      have q12 : x5_1 < (a0.size : Int) := of_decide_eq_true (by first | (with_reducible assumption) | assumption)
                      have hx12 := bt_at a0 x5_1
                      replace p12 := eq_true p12
                      replace q12 := eq_true q12
                      have p13 : 0 ≤ (x5_1 : Int) := of_decide_eq_true (by first | (with_reducible assumption) | assumption)
                      have q13 : x5_1 < (a1.size : Int) := of_decide_eq_true (by first | (with_reducible assumption) | assumption)
                      have hx13 := bt_at a1 x5_1
                      replace p13 := eq_true p13
                      replace q13 := eq_true q13
                      go_wp2
                      repeat (go_quiet (fail); try go_wp2)
                      go_roundg kj2
                      case measure => have := HK1.out; have := HJ2.out; omega
                      case rel => exact ⟨(wrap64 (x5_1 + 1)), (by first | rfl | (simp; done) | (simp [*]; done)), H', ⟨by have := HK1.out; have := HJ2.out; omega⟩, by repeat (first | exact Drawn0.refl _ | apply Drawn0.step)⟩
                · rw [if_neg c9] at H
                  exact absurd H (by simp)
              · rw [if_neg c7] at H
                exact absurd H (by simp)
            · rw [if_neg c6] at H
              exact absurd H (by simp)
          · replace c5 := Bool.eq_false_iff.mpr c5
            subst c5
            have H1 : ((slabvaultref07_sign.f (wrap64 ((a0.size : Int) - (a1.size : Int)))).bind fun t118 => (some t118)) = some r := by rw [if_neg (show ¬ (false = true) by decide)] at H; exact H
            clear H
            have H := H1
            clear H1
            replace H := Option.bind_eq_some_iff.mp H
            obtain ⟨t118, A150, H⟩ := H
            replace H : (some t118) = some r := H
            have A15 := Aside0.mk A150
            clear A150
            obtain rfl := Option.some.inj H
            go_wp2_with (first | (go_at_call 113; (with_reducible refine (slabvaultref07_sign.calls (wrap64 ((a0.size : Int) - (a1.size : Int))) t118 _ A15.out).mono ?_); rintro e w' ⟨rfl, ⟨nd, rfl⟩⟩; (try first | exact ⟨rfl, _, World.drewN_drewN _ _ _⟩ | exact ⟨rfl, _, Eq.trans (World.drewN_drewN _ _ _) (congrArg (World.drewN _) (Nat.add_assoc _ _ _))⟩)))
            repeat (go_quiet (first | (go_at_call 113; (with_reducible refine (slabvaultref07_sign.calls (wrap64 ((a0.size : Int) - (a1.size : Int))) t118 _ A15.out).mono ?_); rintro e w' ⟨rfl, ⟨nd, rfl⟩⟩; (try first | exact ⟨rfl, _, World.drewN_drewN _ _ _⟩ | exact ⟨rfl, _, Eq.trans (World.drewN_drewN _ _ _) (congrArg (World.drewN _) (Nat.add_assoc _ _ _))⟩))); try go_wp2_with (first | (go_at_call 113; (with_reducible refine (slabvaultref07_sign.calls (wrap64 ((a0.size : Int) - (a1.size : Int))) t118 _ A15.out).mono ?_); rintro e w' ⟨rfl, ⟨nd, rfl⟩⟩; (try first | exact ⟨rfl, _, World.drewN_drewN _ _ _⟩ | exact ⟨rfl, _, Eq.trans (World.drewN_drewN _ _ _) (congrArg (World.drewN _) (Nat.add_assoc _ _ _))⟩))))
            go_ret
            exact ⟨by first | rfl | (simp; done) | (simp [*]; done), by repeat (first | exact Drawn0.refl _ | apply Drawn0.step)⟩
end Go.Proofs.YthifdofdoeaemaaGreatDoor.Wk
end
section
namespace Go.Proofs.YthifdofdoeaemaaGreatDoor.Wk
open Go.RowKit Go.Proofs.YthifdofdoeaemaaGreatDoorW.PrintWords Go.Proofs.YthifdofdoeaemaaGreatDoorW.PrintLast Go.Proofs.YthifdofdoeaemaaGreatDoorW.PrintMore
attribute [local go_sem] max2_int min2_int max_two min_two max_three min_three max_four min_four
set_option linter.unusedVariables false
set_option linter.unusedSimpArgs false
section
open Go.RowKit Go.Lib Go.Proofs.YthifdofdoeaemaaGreatDoorW.PrintWords Go.Proofs.YthifdofdoeaemaaGreatDoorW.PrintLast Go.Proofs.YthifdofdoeaemaaGreatDoorW.PrintMore
set_option linter.unusedVariables false
theorem wrap_nat (i : Nat) (h : i < 9223372036854775806) : wrap64 ((i : Int) + 1) = ((i + 1 : Nat) : Int) := by
  unfold wrap64
  omega
theorem bt_nat (s : ByteArray) (i : Nat) (b : UInt8) (h : s.data.toList[i]? = some b) : bt s (i : Int) = (b.toNat : Int) := by
  have hi : i < s.size := by rw [Lib.size_eq]; exact (List.getElem?_eq_some_iff.1 h).1
  unfold bt
  rw [show ((i : Int)).toNat = i from rfl, dif_pos hi]
  have := Lib.data_getElem? s i hi
  rw [h] at this
  cases this
  rfl
theorem byte_eq (b c : UInt8) : ((b.toNat : Int) = (c.toNat : Int)) ↔ b = c := by
  constructor
  · intro h
    exact UInt8.toNat_inj.1 (by omega)
  · rintro rfl; rfl
theorem byte_zero (b : UInt8) : ((b.toNat : Int) = 0) ↔ b = 0 := byte_eq b 0
theorem byte_slash (b : UInt8) : ((b.toNat : Int) = 47) ↔ b = 47 := byte_eq b 47
theorem any_cons (b : UInt8) (l : List UInt8) : Lib.containsAny (b :: l) [47, 0] = (decide (b = 47 ∨ b = 0) || Lib.containsAny l [47, 0]) := by
  have hg := Lib.indexAny_ge [47, 0] l
  by_cases h : b = 47 ∨ b = 0
  · have hc : ([47, 0] : List UInt8).contains b = true := by rcases h with rfl | rfl <;> rfl
    simp [Lib.containsAny, Lib.indexAny, h]
  · have hc : ([47, 0] : List UInt8).contains b = false := by
      simp only [List.contains_cons, List.contains_nil, Bool.or_false, Bool.or_eq_false_iff, beq_eq_false_iff_ne]
      exact ⟨fun e => h (.inl e), fun e => h (.inr e)⟩
    have hd : decide (b = 47 ∨ b = 0) = false := decide_eq_false h
    rw [hd, Bool.false_or]
    unfold Lib.containsAny
    congr 1
    rw [Lib.indexAny, if_neg (by rw [hc]; simp)]
    split
    · rename_i h1
      have : Lib.indexAny l [47, 0] = -1 := by simpa using h1
      rw [this]
    · rename_i h1
      have : Lib.indexAny l [47, 0] ≠ -1 := by simpa using h1
      apply propext
      omega
theorem any_nil : Lib.containsAny [] [47, 0] = false := rfl
theorem nameLoop (s : ByteArray) (hs : s.size < 1000000) : ∀ (d i k : Nat), s.size - i = d → i ≤ s.size → d < k →
    slabvaultref09_Name.l0 k s (i : Int) = some (!(Lib.containsAny (s.data.toList.drop i) [47, 0])) := by
  have hz := Lib.size_eq s
  intro d
  induction d with
  | zero =>
    intro i k hd hi hk
    obtain ⟨k, rfl⟩ : ∃ m, k = m + 1 := ⟨k - 1, by omega⟩
    have : i = s.size := by omega
    subst this
    simp only [slabvaultref09_Name.l0]
    rw [if_neg (by omega), hz, List.drop_of_length_le (Nat.le_refl _), any_nil]
    rfl
  | succ d ih =>
    intro i k hd hi hk
    obtain ⟨k, rfl⟩ : ∃ m, k = m + 1 := ⟨k - 1, by omega⟩
    have hlt : i < s.data.toList.length := by omega
    have hb := bt_nat s i (s.data.toList[i]) (List.getElem?_eq_getElem hlt)
    rw [List.drop_eq_getElem_cons hlt, any_cons]
    generalize s.data.toList[i] = b at hb
    simp only [slabvaultref09_Name.l0]
    rw [if_pos (by omega), if_pos (by omega), hb]
    by_cases h0 : b = 0
    · rw [if_pos ((byte_zero b).2 h0)]
      simp [h0]
    · rw [if_neg (fun e => h0 ((byte_zero b).1 e))]
      by_cases h47 : b = 47
      · rw [if_pos ((byte_slash b).2 h47)]
        simp [h47]
      · rw [if_neg (fun e => h47 ((byte_slash b).1 e)), wrap_nat i (by omega), ih (i + 1) k (by omega) (by omega) (by omega)]
        simp [h0, h47]
theorem ref_name (s : ByteArray) (k : Nat) (hk : 100 ≤ k) : slabvaultref09_Name.f k s = some (goodName s) := by
  have hz := Lib.size_eq s
  have hl := ByteArray.toList_eq s
  obtain ⟨k, rfl⟩ : ∃ m, k = m + 1 := ⟨k - 1, by omega⟩
  unfold slabvaultref09_Name.f goodName
  by_cases h1 : (s.size : Int) < 1
  · have h00 : s.data.toList.length = 0 := by omega
    have h0 : s.toList = [] := by rw [hl]; exact List.length_eq_zero_iff.1 h00
    rw [if_pos h1, h0]
    simp [slabvaultref09_Name.j0]
  · have he : s.toList.isEmpty = false := by
      rw [hl]
      cases h : s.data.toList with
      | nil => rw [h] at hz; have h00 : s.size = 0 := hz; omega
      | cons a t => rfl
    rw [if_neg h1, he]
    by_cases h2 : (s.size : Int) > 64
    · rw [if_pos h2]
      have : ¬ s.size ≤ 64 := by omega
      simp [slabvaultref09_Name.j0, this]
    · have h64 : s.size ≤ 64 := by omega
      rw [if_neg h2]
      by_cases h3 : s.toList = [46]
      · rw [if_pos h3, h3]
        simp [slabvaultref09_Name.j0]
      · have h3b : (s.toList == [46]) = false := by simpa using h3
        rw [if_neg h3, h3b]
        simp only [slabvaultref09_Name.j0]
        by_cases h4 : s.toList = [46, 46]
        · rw [h4]; simp
        · have h4b : (s.toList == [46, 46]) = false := by simpa using h4
          rw [h4b, if_neg (by simp)]
          have := nameLoop s (by omega) s.size 0 k (by omega) (by omega) (by omega)
          rw [show ((0 : Nat) : Int) = 0 from rfl] at this
          rw [this]
          simp [h64]
theorem cutL_cons_slash (l : List UInt8) : cutL (47 :: l) = [] :: cutL l := by simp [cutL]
theorem cutL_cons (b : UInt8) (l : List UInt8) (h : b ≠ 47) (p : List UInt8) (ps : List (List UInt8)) (hp : cutL l = p :: ps) : cutL (b :: l) = (b :: p) :: ps := by
  rw [show cutL (b :: l) = (if b = 47 then [] :: cutL l else match cutL l with | [] => [[b]] | p :: ps => (b :: p) :: ps) from rfl, if_neg h, hp]
theorem slice_mkB (s : ByteArray) (a b : Nat) : s.extract a b = mkB ((s.data.toList.drop a).take (b - a)) := by
  apply mkB_eq
  rw [data_mkB, Lib.extract_data]
theorem partsLoop (s : ByteArray) (hs : s.size < 1000000) : ∀ (d i k a : Nat) (acc : List ByteArray) (p : List UInt8) (ps : List (List UInt8)), s.size - i = d → i ≤ s.size → a ≤ i → d + 1 < k → acc.length ≤ i →
    cutL (s.data.toList.drop i) = p :: ps →
    slabvaultref17_parts.l0 k s acc (a : Int) (i : Int) = some (acc ++ mkB ((s.data.toList.drop a).take (i - a) ++ p) :: ps.map mkB) := by
  have hz := Lib.size_eq s
  intro d
  induction d with
  | zero =>
    intro i k a acc p ps hd hi ha hk hacc hc
    obtain ⟨k, rfl⟩ : ∃ m, k = m + 2 := ⟨k - 2, by omega⟩
    have : i = s.size := by omega
    subst this
    rw [List.drop_of_length_le (by omega)] at hc
    obtain ⟨rfl, rfl⟩ : [] = p ∧ [] = ps := by simpa [cutL] using hc
    simp only [slabvaultref17_parts.l0]
    rw [if_pos (by omega), if_true, if_pos (by omega), if_pos (by omega), if_pos (by omega), wrap_nat s.size (by omega), if_neg (by omega)]
    rw [show ((a : Int)).toNat = a from rfl, show ((s.size : Int)).toNat = s.size from rfl, slice_mkB]
    simp
  | succ d ih =>
    intro i k a acc p ps hd hi ha hk hacc hc
    obtain ⟨k, rfl⟩ : ∃ m, k = m + 1 := ⟨k - 1, by omega⟩
    have hlt : i < s.data.toList.length := by omega
    have hb := bt_nat s i (s.data.toList[i]) (List.getElem?_eq_getElem hlt)
    rw [List.drop_eq_getElem_cons hlt] at hc
    have htk : (s.data.toList.drop a).take (i + 1 - a) = (s.data.toList.drop a).take (i - a) ++ [s.data.toList[i]] := by
      have h1 : i + 1 - a = (i - a) + 1 := by omega
      have h2 : i - a < (s.data.toList.drop a).length := by rw [List.length_drop]; omega
      rw [h1, List.take_succ_eq_append_getElem h2]
      congr 2
      rw [List.getElem_drop]
      congr 1
      omega
    generalize s.data.toList[i] = b at hb hc htk
    obtain ⟨q, qs, hq⟩ : ∃ q qs, cutL (s.data.toList.drop (i + 1)) = q :: qs := by
      cases h : cutL (s.data.toList.drop (i + 1)) with
      | nil => exact absurd h (cutL_ne _)
      | cons q qs => exact ⟨q, qs, rfl⟩
    simp only [slabvaultref17_parts.l0]
    rw [if_pos (by omega), if_neg (by omega), if_pos (by omega), if_pos (by omega), hb]
    by_cases h47 : b = 47
    · subst h47
      rw [cutL_cons_slash, hq] at hc
      obtain ⟨rfl, rfl⟩ : [] = p ∧ q :: qs = ps := by simpa using hc
      rw [if_pos ((byte_slash 47).2 rfl), if_pos (by omega), if_pos (by omega), if_pos (by omega), wrap_nat i (by omega)]
      have := ih (i + 1) k (i + 1) (acc ++ [s.extract ((a : Int)).toNat ((i : Int)).toNat]) q qs (by omega) (by omega) (Nat.le_refl _) (by omega) (by simp; omega) hq
      rw [this, show ((a : Int)).toNat = a from rfl, show ((i : Int)).toNat = i from rfl, slice_mkB]
      simp
    · rw [cutL_cons b _ h47 q qs hq] at hc
      obtain ⟨rfl, rfl⟩ : b :: q = p ∧ qs = ps := by simpa using hc
      rw [if_neg (fun e => h47 ((byte_slash b).1 e)), wrap_nat i (by omega)]
      have := ih (i + 1) k a acc q qs (by omega) (by omega) (by omega) (by omega) (by omega) hq
      rw [this, htk]
      simp
theorem ref_parts (s : ByteArray) (h1 : 1 ≤ s.size) (hs : s.size < 1000000) (k : Nat) (hk : s.size < k) : slabvaultref17_parts.f k s = some (partsB (s.extract 1 s.size)) := by
  have hz := Lib.size_eq s
  obtain ⟨q, qs, hq⟩ : ∃ q qs, cutL (s.data.toList.drop 1) = q :: qs := by
    cases h : cutL (s.data.toList.drop 1) with
    | nil => exact absurd h (cutL_ne _)
    | cons q qs => exact ⟨q, qs, rfl⟩
  unfold slabvaultref17_parts.f
  have := partsLoop s hs (s.size - 1) 1 k 1 [] q qs rfl h1 (Nat.le_refl _) (by omega) (by simp) hq
  rw [show ((1 : Nat) : Int) = 1 from rfl] at this
  rw [this]
  unfold partsB
  rw [Lib.extract_data, show (s.data.toList.drop 1).take (s.size - 1) = s.data.toList.drop 1 from List.take_of_length_le (by rw [List.length_drop]; omega), hq]
  simp
def three : Except (Nat × Int) (List ByteArray) → List ByteArray × Int × Int
  | .ok l => (l, 0, 0)
  | .error (a, y) => ([], a, y)
theorem parseP_three (s : ByteArray) : parseP s = three (parseF s) := by
  unfold parseP three
  cases parseF s with
  | ok l => rfl
  | error p => rfl
theorem rdOf_nat (l : List ByteArray) (i : Nat) (h : i < l.length) : rdOf ByteArray.empty l (i : Int) = l[i] := by
  simp [rdOf, List.getD_eq_getElem?_getD, List.getElem?_eq_getElem h]
theorem parseLoop (x6 : List ByteArray) (hx : x6.length < 1000000) : ∀ (d i k : Nat) (acc : List ByteArray), x6.length - i = d → i ≤ x6.length → 2 * d + 110 < k → acc.length ≤ 16 →
    slabvaultref17_Parse.l0 k acc x6 (i : Int) = some (three (parseL acc (x6.drop i))) := by
  intro d
  induction d with
  | zero =>
    intro i k acc hd hi hk hacc
    obtain ⟨k, rfl⟩ : ∃ m, k = m + 1 := ⟨k - 1, by omega⟩
    simp only [slabvaultref17_Parse.l0]
    rw [if_neg (by omega), List.drop_of_length_le (by omega)]
    rfl
  | succ d ih =>
    intro i k acc hd hi hk hacc
    obtain ⟨k, rfl⟩ : ∃ m, k = m + 2 := ⟨k - 2, by omega⟩
    have hlt : i < x6.length := by omega
    have hrd := rdOf_nat x6 i hlt
    rw [List.drop_eq_getElem_cons hlt]
    generalize x6[i] = p at hrd
    have hpl : parseL acc (p :: x6.drop (i + 1)) = match parseStep acc p with | .ok a => parseL a (x6.drop (i + 1)) | .error e => .error e := rfl
    rw [hpl]
    have ih2 := fun acc' h' => ih (i + 1) k acc' (by omega) (by omega) (by omega) h'
    simp only [slabvaultref17_Parse.l0, slabvaultref17_Parse.j2]
    rw [if_pos (by omega), if_pos (by omega), hrd]
    unfold parseStep
    by_cases k1 : p.toList = []
    · rw [if_pos k1, k1]
      simp only [List.isEmpty_nil, if_true]
      rw [wrap_nat i (by omega)]
      exact ih2 acc hacc
    · have k1b : p.toList.isEmpty = false := by simpa using k1
      rw [if_neg k1, k1b]
      cases k2 : (p.toList == [46])
      · simp only [if_false, Bool.false_eq_true]
        rw [if_pos (by omega), if_pos (by omega), ref_name p k (by omega)]
        simp only [Option.bind_some]
        cases k3 : goodName p
        · simp [three]
        · simp only [if_true, if_false, Bool.true_eq_false]
          by_cases k4 : acc.length = 16
          · rw [if_pos (by omega), if_pos k4, k4]
            rfl
          · rw [if_neg (by omega), if_neg k4, if_pos (by omega), wrap_nat i (by omega)]
            exact ih2 (acc ++ [p]) (by simp; omega)
      · simp only [if_true, if_false, Bool.false_eq_true]
        rw [wrap_nat i (by omega)]
        exact ih2 acc hacc
theorem cutL_length : ∀ l : List UInt8, (cutL l).length ≤ l.length + 1
  | [] => by simp [cutL]
  | b :: l => by
    have ih := cutL_length l
    unfold cutL
    split
    · simp; omega
    · split
      · simp
      · rename_i h
        rw [h] at ih
        simp at ih ⊢
        omega
theorem ref_parse (s : ByteArray) (k : Nat) (hk : 5000 ≤ k) : slabvaultref17_Parse.f k s = some (parseP s) := by
  have hz := Lib.size_eq s
  obtain ⟨k, rfl⟩ : ∃ m, k = m + 1 := ⟨k - 1, by omega⟩
  rw [parseP_three]
  unfold slabvaultref17_Parse.f parseF
  by_cases h1 : 1024 < s.size
  · rw [if_pos (by omega), if_pos h1]
    rfl
  · rw [if_neg (by omega), if_neg h1]
    cases hd : s.data.toList with
    | nil =>
      rw [hd] at hz
      have h0 : s.size = 0 := hz
      rw [if_pos (by omega)]
      simp [slabvaultref17_Parse.j0, three, Lib.hasPrefix]
    | cons b t =>
      rw [hd] at hz
      have h0 : s.size = t.length + 1 := hz
      have hb : bt s 0 = (b.toNat : Int) := bt_nat s 0 b (by rw [hd]; rfl)
      rw [if_neg (by omega), if_pos (by omega), hb]
      by_cases h47 : b = 47
      · subst h47
        have hp : Lib.hasPrefix (47 :: t) [47] = true := by simp [Lib.hasPrefix]
        rw [hp, if_neg (by simp)]
        have hne : (((47 : UInt8).toNat : Int) != 47) = false := rfl
        rw [hne]
        simp only [slabvaultref17_Parse.j0]
        rw [if_neg (by simp), ref_parts s (by omega) (by omega) k (by omega)]
        simp only [Option.bind_some]
        have hle : (partsB (s.extract 1 s.size)).length ≤ 1026 := by
          unfold partsB
          rw [List.length_map]
          have := cutL_length (s.extract 1 s.size).data.toList
          rw [Lib.extract_data] at this
          rw [Lib.extract_data]
          simp only [List.length_take, List.length_drop, hd, List.length_cons] at this
          rw [hd]
          omega
        have := parseLoop (partsB (s.extract 1 s.size)) (by omega) _ 0 k [] rfl (by omega) (by omega) (by simp)
        rw [show ((0 : Nat) : Int) = 0 from rfl] at this
        rw [this, List.drop_zero]
      · have hp : Lib.hasPrefix (b :: t) [47] = false := by
          simp only [Lib.hasPrefix, List.isPrefixOf, Bool.and_true, beq_eq_false_iff_ne, ne_eq]
          rintro rfl
          exact h47 rfl
        rw [hp, if_pos rfl]
        have hne : ((b.toNat : Int) != 47) = true := by
          rw [bne_iff_ne]
          exact fun e => h47 ((byte_slash b).1 e)
        rw [hne]
        simp [slabvaultref17_Parse.j0, three]
theorem byte_lt (b c : UInt8) : ((b.toNat : Int) < (c.toNat : Int)) ↔ b < c := by rw [UInt8.lt_iff_toNat_lt]; omega
theorem cmpLoop (a b : ByteArray) (ha : a.size < 1000000) (hb : b.size < 1000000) : ∀ (d i k : Nat), a.size - i = d → i ≤ a.size → i ≤ b.size → 2 * d + 2 < k →
    ∃ r, slabvaultref07_CmpNames.l0 k a b (i : Int) = some r ∧ (r < 0 ↔ bytesBefore (a.data.toList.drop i) (b.data.toList.drop i) = true) := by
  have hz := Lib.size_eq a
  have hz2 := Lib.size_eq b
  intro d
  induction d with
  | zero =>
    intro i k hd hi hi2 hk
    obtain ⟨k, rfl⟩ : ∃ m, k = m + 2 := ⟨k - 2, by omega⟩
    have : i = a.size := by omega
    subst this
    simp only [slabvaultref07_CmpNames.l0, slabvaultref07_CmpNames.j1]
    rw [if_neg (by omega), if_neg (by simp)]
    rw [List.drop_of_length_le (by omega)]
    unfold slabvaultref07_sign.f
    have hw : wrap64 ((a.size : Int) - (b.size : Int)) = (a.size : Int) - (b.size : Int) := by unfold wrap64; omega
    rw [hw]
    by_cases h : a.size = b.size
    · rw [if_neg (by omega), if_neg (by omega), List.drop_of_length_le (by omega)]
      exact ⟨0, rfl, by simp [bytesBefore]⟩
    · rw [if_pos (by omega)]
      refine ⟨-1, rfl, ⟨fun _ => ?_, fun _ => by omega⟩⟩
      rw [List.drop_eq_getElem_cons (by omega : a.size < b.data.toList.length)]
      rfl
  | succ d ih =>
    intro i k hd hi hi2 hk
    obtain ⟨k, rfl⟩ : ∃ m, k = m + 2 := ⟨k - 2, by omega⟩
    have hlt : i < a.data.toList.length := by omega
    simp only [slabvaultref07_CmpNames.l0, slabvaultref07_CmpNames.j1]
    rw [if_pos (by omega)]
    by_cases h : i < b.size
    · have hlt2 : i < b.data.toList.length := by omega
      rw [decide_eq_true (by omega : (i : Int) < (b.size : Int)), if_pos rfl, if_pos (by omega), if_pos (by omega), if_pos (by omega)]
      rw [bt_nat a i _ (List.getElem?_eq_getElem hlt), bt_nat b i _ (List.getElem?_eq_getElem hlt2), List.drop_eq_getElem_cons hlt, List.drop_eq_getElem_cons hlt2]
      obtain ⟨r, hr, hr2⟩ := ih (i + 1) k (by omega) (by omega) (by omega) (by omega)
      generalize a.data.toList[i] = x
      generalize b.data.toList[i] = y
      by_cases h1 : x < y
      · rw [if_pos ((byte_lt x y).2 h1)]
        exact ⟨-1, rfl, by simp [bytesBefore, h1]⟩
      · rw [if_neg (fun e => h1 ((byte_lt x y).1 e))]
        by_cases h2 : y < x
        · rw [if_pos (show (x.toNat : Int) > (y.toNat : Int) from (byte_lt y x).2 h2)]
          refine ⟨1, rfl, ?_⟩
          have : ¬ x = y := by rintro rfl; exact h1 h2
          simp [bytesBefore, h1, this]
        · rw [if_neg (fun e => h2 ((byte_lt y x).1 e)), wrap_nat i (by omega)]
          have : x = y := by
            apply UInt8.toNat_inj.1
            rw [UInt8.lt_iff_toNat_lt] at h1 h2
            omega
          subst this
          refine ⟨r, hr, hr2.trans ?_⟩
          simp [bytesBefore, h1]
    · rw [decide_eq_false (by omega : ¬ (i : Int) < (b.size : Int)), if_neg (by simp)]
      have hw : wrap64 ((a.size : Int) - (b.size : Int)) = (a.size : Int) - (b.size : Int) := by unfold wrap64; omega
      unfold slabvaultref07_sign.f
      rw [hw, if_neg (by omega), if_pos (by omega), List.drop_of_length_le (by omega : b.data.toList.length ≤ i)]
      refine ⟨1, rfl, ?_⟩
      cases List.drop i a.data.toList <;> simp [bytesBefore]
theorem ref_cmp (a b : ByteArray) (ha : a.size < 1000000) (hb : b.size < 1000000) : ∃ r, slabvaultref07_CmpNames.f 3000000 a b = some r ∧ (r < 0 ↔ bytesBefore a.data.toList b.data.toList = true) := by
  obtain ⟨r, h1, h2⟩ := cmpLoop a b ha hb a.size 0 3000000 (by omega) (by omega) (by omega) (by omega)
  refine ⟨r, ?_, by simpa using h2⟩
  unfold slabvaultref07_CmpNames.f
  exact h1
end
end Go.Proofs.YthifdofdoeaemaaGreatDoor.Wk
end
section
namespace Go.Proofs.YthifdofdoeaemaaGreatDoor.Wk
open Go.RowKit Go.Proofs.YthifdofdoeaemaaGreatDoorW.PrintWords Go.Proofs.YthifdofdoeaemaaGreatDoorW.PrintLast Go.Proofs.YthifdofdoeaemaaGreatDoorW.PrintMore
attribute [local go_sem] max2_int min2_int max_two min_two max_three min_three max_four min_four
set_option linter.unusedVariables false
set_option linter.unusedSimpArgs false
section
open Go.RowKit Go.Lib Go.Maps Go.Proofs.YthifdofdoeaemaaGreatDoorQ
attribute [local go_sem] Oper.semAt_some
def ObjsR (W : World) (A : Option Addr) (l : List (Int × GO)) : Prop := 0 < l.length → ∃ b o, A = some ⟨b, o, none⟩ ∧ b < W.heap.size ∧ ∀ j x, l[j]? = some x → ∃ Ax cx, W.cell? ⟨b, o + j * 4, none⟩ = some (.int .i64 x.1) ∧ W.cell? ⟨b, o + j * 4 + 1, none⟩ = some (.int .i64 x.2.kind) ∧ W.cell? ⟨b, o + j * 4 + 2, none⟩ = some (.slice Ax x.2.links.length cx) ∧ W.cell? ⟨b, o + j * 4 + 3, none⟩ = some (.int .i64 x.2.held) ∧ x.2.links.length ≤ cx ∧ LinksR W Ax x.2.links
theorem ObjsR.at {W : World} {A : Option Addr} {l : List (Int × GO)} (h : ObjsR W A l) {j : Nat} {x : Int × GO} (hx : l[j]? = some x) : ∃ b o Ax cx, A = some ⟨b, o, none⟩ ∧ b < W.heap.size ∧ W.cell? ⟨b, o + j * 4, none⟩ = some (.int .i64 x.1) ∧ W.cell? ⟨b, o + j * 4 + 1, none⟩ = some (.int .i64 x.2.kind) ∧ W.cell? ⟨b, o + j * 4 + 2, none⟩ = some (.slice Ax x.2.links.length cx) ∧ W.cell? ⟨b, o + j * 4 + 3, none⟩ = some (.int .i64 x.2.held) ∧ x.2.links.length ≤ cx ∧ LinksR W Ax x.2.links := by
  obtain ⟨b, o, hA, hl, hc⟩ := h (Nat.lt_of_le_of_lt (Nat.zero_le _) (List.getElem?_eq_some_iff.1 hx).1)
  obtain ⟨Ax, cx, h1⟩ := hc j x hx
  exact ⟨b, o, Ax, cx, hA, hl, h1⟩
theorem ObjsR.below {W W' : World} {A : Option Addr} {l : List (Int × GO)} (h : ObjsR W A l) (hb : Below W.heap.size W W') : ObjsR W' A l := fun h0 => by
  obtain ⟨b, o, hA, hl, hc⟩ := h h0
  refine ⟨b, o, hA, Nat.lt_of_lt_of_le hl hb.size, fun j y hy => ?_⟩
  obtain ⟨Ax, cx, h1, h2, h3, h4, h5, h6⟩ := hc j y hy
  exact ⟨Ax, cx, (hb.cell (p := ⟨b, o + j * 4, none⟩) hl).trans h1, (hb.cell (p := ⟨b, o + j * 4 + 1, none⟩) hl).trans h2, (hb.cell (p := ⟨b, o + j * 4 + 2, none⟩) hl).trans h3, (hb.cell (p := ⟨b, o + j * 4 + 3, none⟩) hl).trans h4, h5, h6.below hb⟩
structure RefR (W : World) (g : Nat) (next : Int) (A : Option Addr) (c : Nat) (l : List (Int × GO)) : Prop where
  lt : g < W.heap.size
  c0 : W.cell? ⟨g, 0, none⟩ = some (.int .i64 next)
  c1 : W.cell? ⟨g, 1, none⟩ = some (.slice A l.length c)
  cap : l.length ≤ c
  objs : ObjsR W A l
theorem RefR.below {W W' : World} {g : Nat} {next : Int} {A : Option Addr} {c : Nat} {l : List (Int × GO)} (h : RefR W g next A c l) (hb : Below W.heap.size W W') : RefR W' g next A c l := ⟨Nat.lt_of_lt_of_le h.lt hb.size, (hb.cell (p := ⟨g, 0, none⟩) h.lt).trans h.c0, (hb.cell (p := ⟨g, 1, none⟩) h.lt).trans h.c1, h.cap, h.objs.below hb⟩
def AtP (l : List (Int × GO)) (id r : Int) : Prop := (∃ (i : Nat) (x : Int × GO), l[i]? = some x ∧ x.1 = id ∧ r = (i : Int)) ∨ (r = -1 ∧ ∀ x ∈ l, x.1 ≠ id)
set_option maxHeartbeats 4000000 in
set_option maxRecDepth 100000 in
theorem refAt_calls (w : World) (g : Nat) (next : Int) (A : Option Addr) (c : Nat) (l : List (Int × GO)) (id : Int) (hr : RefR w g next A c l) (hb : l.length ≤ bound) :
    Calls Tryz.prog 56 #[.pointer (some ⟨g, 0, none⟩), .int .i64 id] w fun e w' => ∃ r, AtP l id r ∧ e = .returned (.int .i64 r) ∧ w' = w := by
  have HR := Aside0.mk hr
  have HB := Aside0.mk hb
  have c1 := hr.c1
  clear hr hb
  go_enter Tryz.func56, Tryz.ntmps56
  go_wp2
  go_loopg [5] l.length (fun kq v5 W => ∃ (j : Nat) (jv : Int), v5 = .int .i64 jv ∧ Aside0 (jv = (j : Int)) ∧ Aside0 (j ≤ l.length ∧ l.length - j ≤ kq) ∧ Aside0 (∀ x ∈ l.take j, x.1 ≠ id) ∧ W = w)
  case atStart => exact ⟨0, 0, rfl, ⟨rfl⟩, ⟨by omega, by omega⟩, ⟨by simp⟩, rfl⟩
  case round =>
    obtain ⟨j, jv, rfl, HJV, HJ, HN, rfl⟩ := hrel
    by_cases hlt : j < l.length
    · obtain ⟨x, hx⟩ : ∃ x, l[j]? = some x := ⟨_, List.getElem?_eq_getElem hlt⟩
      obtain ⟨b, o, Ax, cx, rfl, -, x1, -, -, -, -, -⟩ := HR.out.objs.at hx
      have q1 : decide (jv < (l.length : Int)) = true := decide_eq_true (by have := HJV.out; omega)
      have q2 : (jv < (l.length : Int)) = True := eq_true (by have := HJV.out; omega)
      have q3 : (0 : Int) ≤ jv := by have := HJV.out; omega
      have q4 : jv.toNat = j := by have := HJV.out; omega
      have w1_ : wrap64 (jv + 1) = jv + 1 := wrap_ok9 _ (by omega) (by have := HJV.out; have := HB.out; unfold bound at this; omega)
      have HLT := Aside0.mk hlt
      have HX := Aside0.mk hx
      clear hx hlt
      by_cases he : x.1 = id
      · have e1 : (x.1 == id) = true := by simpa using he
        have HE := Aside0.mk he
        clear he
        go_wp2
        go_ret
        exact ⟨jv, .inl ⟨j, x, HX.out, HE.out, HJV.out⟩, rfl, rfl⟩
      · have e1 : (x.1 == id) = false := by simpa using he
        have HE := Aside0.mk he
        clear he
        go_wp2
        clear q4
        go_roundg (gk - 1)
        case measure => have := HJ.out; have := HLT.out; omega
        case rel => exact ⟨j + 1, jv + 1, by first | rfl | rw [w1_], ⟨by have := HJV.out; omega⟩, ⟨by have := HLT.out; omega, by have := HJ.out; omega⟩, ⟨fun z hz => by
          rw [List.take_add_one, HX.out] at hz
          rcases List.mem_append.1 hz with hz | hz
          · exact HN.out z hz
          · obtain rfl : z = x := by simpa using hz
            exact HE.out⟩, rfl⟩
    · have q1 : decide (jv < (l.length : Int)) = false := decide_eq_false (by have := HJV.out; omega)
      have q2 : (jv < (l.length : Int)) = False := eq_false (by have := HJV.out; omega)
      have HLT := Aside0.mk hlt
      clear hlt
      go_wp2
      go_ret
      exact ⟨-1, .inr ⟨rfl, by have := HN.out; rw [List.take_of_length_le (by have := HLT.out; omega)] at this; exact this⟩, rfl, rfl⟩
theorem sumO_takeS {f : GO → Nat} {l : List (Int × GO)} {j : Nat} {x : Int × GO} (hx : l[j]? = some x) : sumO f (l.take (j + 1)) = sumO f (l.take j) + f x.2 := by
  rw [List.take_add_one, hx]
  unfold sumO
  simp
set_option maxHeartbeats 4000000 in
set_option maxRecDepth 100000 in
theorem refLinks_calls (w : World) (g : Nat) (next : Int) (A : Option Addr) (c : Nat) (l : List (Int × GO)) (hr : RefR w g next A c l) (hb : l.length ≤ bound) (hs : sumO lenO l ≤ 1000000000) :
    Calls Tryz.prog 54 #[.pointer (some ⟨g, 0, none⟩)] w fun e w' => e = .returned (.int .i64 ((sumO lenO l : Nat) : Int)) ∧ w' = w := by
  have HR := Aside0.mk hr
  have HB := Aside0.mk hb
  have HS := Aside0.mk hs
  have c1 := hr.c1
  clear hr hb hs
  go_enter Tryz.func54, Tryz.ntmps54
  go_wp2
  go_loopg [3, 4] l.length (fun kq v3 v4 W => ∃ (j : Nat) (jv nv : Int), v3 = .int .i64 nv ∧ v4 = .int .i64 jv ∧ Aside0 (jv = (j : Int)) ∧ Aside0 (nv = ((sumO lenO (l.take j) : Nat) : Int)) ∧ Aside0 (j ≤ l.length ∧ l.length - j ≤ kq) ∧ W = w)
  case atStart => exact ⟨0, 0, 0, rfl, rfl, ⟨rfl⟩, ⟨rfl⟩, ⟨by omega, by omega⟩, rfl⟩
  case round =>
    obtain ⟨j, jv, nv, rfl, rfl, HJV, HNV, HJ, rfl⟩ := hrel
    by_cases hlt : j < l.length
    · obtain ⟨x, hx⟩ : ∃ x, l[j]? = some x := ⟨_, List.getElem?_eq_getElem hlt⟩
      obtain ⟨b, o, Ax, cx, rfl, -, -, -, x1, -, -, -⟩ := HR.out.objs.at hx
      have q1 : decide (jv < (l.length : Int)) = true := decide_eq_true (by have := HJV.out; omega)
      have q2 : (jv < (l.length : Int)) = True := eq_true (by have := HJV.out; omega)
      have q3 : (0 : Int) ≤ jv := by have := HJV.out; omega
      have q4 : jv.toNat = j := by have := HJV.out; omega
      have w1_ : wrap64 (jv + 1) = jv + 1 := wrap_ok9 _ (by omega) (by have := HJV.out; have := HB.out; unfold bound at this; omega)
      have hst : sumO lenO (l.take (j + 1)) = sumO lenO (l.take j) + x.2.links.length := sumO_takeS hx
      have hle := sumO_take_le lenO l (j + 1)
      have w2_ : wrap64 (nv + (x.2.links.length : Int)) = nv + (x.2.links.length : Int) := wrap_ok9 _ (by have := HNV.out; omega) (by have := HNV.out; have := HS.out; omega)
      have HLT := Aside0.mk hlt
      have HST := Aside0.mk hst
      clear hx hlt hst hle
      go_wp2
      clear q4
      go_roundg (gk - 1)
      case measure => have := HJ.out; have := HLT.out; omega
      case rel => exact ⟨j + 1, jv + 1, nv + (x.2.links.length : Int), by first | rfl | rw [w2_], by first | rfl | rw [w1_], ⟨by have := HJV.out; omega⟩, ⟨by have := HST.out; have := HNV.out; omega⟩, ⟨by have := HLT.out; omega, by have := HJ.out; omega⟩, rfl⟩
    · have q1 : decide (jv < (l.length : Int)) = false := decide_eq_false (by have := HJV.out; omega)
      have q2 : (jv < (l.length : Int)) = False := eq_false (by have := HJV.out; omega)
      have HLT := Aside0.mk hlt
      clear hlt
      go_wp2
      go_ret
      exact ⟨by have h1 := HNV.out; rw [List.take_of_length_le (by have := HLT.out; omega)] at h1; rw [h1]; rfl, rfl⟩
theorem cntL_takeS {id : Int} {l : List Lk} {j : Nat} {k : Lk} (hk : l[j]? = some k) : cntL id (l.take (j + 1)) = cntL id (l.take j) + (if k.2.1 = id then 1 else 0) := by
  rw [List.take_add_one, hk]
  unfold cntL
  rw [List.countP_append]
  simp [List.countP_cons]
theorem cntL_le (id : Int) (l : List Lk) : cntL id l ≤ l.length := List.countP_le_length
set_option maxHeartbeats 4000000 in
set_option maxRecDepth 100000 in
theorem refLeads_calls (w : World) (g : Nat) (next : Int) (A : Option Addr) (c : Nat) (l : List (Int × GO)) (id : Int) (hr : RefR w g next A c l) (hb : l.length ≤ bound) (hs : sumO lenO l ≤ 1000000000) :
    Calls Tryz.prog 57 #[.pointer (some ⟨g, 0, none⟩), .int .i64 id] w fun e w' => e = .returned (.int .i64 ((sumO (cntO id) l : Nat) : Int)) ∧ w' = w := by
  have HR := Aside0.mk hr
  have HB := Aside0.mk hb
  have HS := Aside0.mk hs
  have c1 := hr.c1
  clear hr hb hs
  go_enter Tryz.func57, Tryz.ntmps57
  go_wp2
  go_loopg [5, 6] l.length (fun kq v5 v6 W => ∃ (j : Nat) (jv nv : Int), v5 = .int .i64 nv ∧ v6 = .int .i64 jv ∧ Aside0 (jv = (j : Int)) ∧ Aside0 (nv = ((sumO (cntO id) (l.take j) : Nat) : Int)) ∧ Aside0 (j ≤ l.length ∧ l.length - j ≤ kq) ∧ W = w)
  case atStart => exact ⟨0, 0, 0, rfl, rfl, ⟨rfl⟩, ⟨rfl⟩, ⟨by omega, by omega⟩, rfl⟩
  case round =>
    obtain ⟨j, jv, nv, rfl, rfl, HJV, HNV, HJ, rfl⟩ := hrel
    by_cases hlt : j < l.length
    · obtain ⟨x, hx⟩ : ∃ x, l[j]? = some x := ⟨_, List.getElem?_eq_getElem hlt⟩
      obtain ⟨b, o, Ax, cx, rfl, -, -, -, x1, -, -, xr⟩ := HR.out.objs.at hx
      have HXR := Aside0.mk xr
      have q1 : decide (jv < (l.length : Int)) = true := decide_eq_true (by have := HJV.out; omega)
      have q2 : (jv < (l.length : Int)) = True := eq_true (by have := HJV.out; omega)
      have q3 : (0 : Int) ≤ jv := by have := HJV.out; omega
      have q4 : jv.toNat = j := by have := HJV.out; omega
      have w1_ : wrap64 (jv + 1) = jv + 1 := wrap_ok9 _ (by omega) (by have := HJV.out; have := HB.out; unfold bound at this; omega)
      have HST : Aside0 (sumO (cntO id) (l.take (j + 1)) = sumO (cntO id) (l.take j) + cntL id x.2.links) := ⟨sumO_takeS hx⟩
      have hxl : x.2.links.length ≤ sumO lenO l := le_sumO lenO (List.mem_of_getElem? hx)
      have hsl : sumO (cntO id) (l.take j) ≤ sumO lenO l := Nat.le_trans (sumO_take_le (cntO id) l j) (sumO_cnt_le id l)
      have HXL := Aside0.mk (And.intro hxl hsl)
      have HLT := Aside0.mk hlt
      clear hx hlt xr hxl hsl
      obtain ⟨gk0, HGK⟩ : ∃ gk0, Aside0 (gk0 = gk) := ⟨_, ⟨rfl⟩⟩
      go_wp2
      go_loopg [5, 7] x.2.links.length (fun kq v5 v7 W => ∃ (m : Nat) (mv nv2 : Int), v5 = .int .i64 nv2 ∧ v7 = .int .i64 mv ∧ Aside0 (mv = (m : Int)) ∧ Aside0 (nv2 = nv + ((cntL id (x.2.links.take m) : Nat) : Int)) ∧ Aside0 (m ≤ x.2.links.length ∧ x.2.links.length - m ≤ kq) ∧ W = wr)
      case atStart => exact ⟨0, 0, nv, rfl, rfl, ⟨rfl⟩, ⟨by simp [cntL]⟩, ⟨by omega, by omega⟩, rfl⟩
      case round =>
        obtain ⟨m, mv, nv2, rfl, rfl, HMV, HN2, HM, rfl⟩ := hrel
        by_cases hmt : m < x.2.links.length
        · obtain ⟨k, hk⟩ : ∃ k, x.2.links[m]? = some k := ⟨_, List.getElem?_eq_getElem hmt⟩
          obtain ⟨b2, o2, rfl, -, -, k1, -⟩ := HXR.out.at hk
          have p1 : decide (mv < (x.2.links.length : Int)) = true := decide_eq_true (by have := HMV.out; omega)
          have p2 : (mv < (x.2.links.length : Int)) = True := eq_true (by have := HMV.out; omega)
          have p3 : (0 : Int) ≤ mv := by have := HMV.out; omega
          have p4 : mv.toNat = m := by have := HMV.out; omega
          have w2_ : wrap64 (mv + 1) = mv + 1 := wrap_ok9 _ (by omega) (by have := HMV.out; have := HS.out; have := HXL.out; omega)
          have hcl : cntL id (x.2.links.take m) ≤ x.2.links.length := Nat.le_trans (cntL_le id _) (by rw [List.length_take]; omega)
          have w3_ : wrap64 (nv2 + 1) = nv2 + 1 := wrap_ok9 _ (by have := HN2.out; have := HNV.out; omega) (by have := HN2.out; have := HNV.out; have := HS.out; have := HXL.out; omega)
          have HCS : Aside0 (cntL id (x.2.links.take (m + 1)) = cntL id (x.2.links.take m) + (if k.2.1 = id then 1 else 0)) := ⟨cntL_takeS hk⟩
          have HMT := Aside0.mk hmt
          clear hk hmt hcl
          by_cases he : k.2.1 = id
          · have e1 : (k.2.1 == id) = true := by simpa using he
            have HE := Aside0.mk he
            clear he
            go_wp2
            clear p4
            go_roundg (gk - 1)
            case measure => have := HM.out; have := HMT.out; omega
            case rel => exact ⟨m + 1, mv + 1, nv2 + 1, by first | rfl | rw [w3_], by first | rfl | rw [w2_], ⟨by have := HMV.out; omega⟩, ⟨by have := HCS.out; rw [if_pos HE.out] at this; have := HN2.out; omega⟩, ⟨by have := HMT.out; omega, by have := HM.out; omega⟩, rfl⟩
          · have e1 : (k.2.1 == id) = false := by simpa using he
            have HE := Aside0.mk he
            clear he
            go_wp2
            clear p4
            go_roundg (gk - 1)
            case measure => have := HM.out; have := HMT.out; omega
            case rel => exact ⟨m + 1, mv + 1, nv2, by first | rfl, by first | rfl | rw [w2_], ⟨by have := HMV.out; omega⟩, ⟨by have := HCS.out; rw [if_neg HE.out] at this; have := HN2.out; omega⟩, ⟨by have := HMT.out; omega, by have := HM.out; omega⟩, rfl⟩
        · have p1 : decide (mv < (x.2.links.length : Int)) = false := decide_eq_false (by have := HMV.out; omega)
          have p2 : (mv < (x.2.links.length : Int)) = False := eq_false (by have := HMV.out; omega)
          have HMT := Aside0.mk hmt
          clear hmt
          go_wp2
          clear q4
          go_roundg (gk0 - 1)
          case measure => have := HJ.out; have := HLT.out; have := HGK.out; omega
          case rel => exact ⟨j + 1, jv + 1, nv2, by first | rfl, by first | rfl | rw [w1_], ⟨by have := HJV.out; omega⟩, ⟨by have h1 := HN2.out; rw [List.take_of_length_le (by have := HMT.out; omega)] at h1; have := HST.out; have := HNV.out; omega⟩, ⟨by have := HLT.out; omega, by have := HJ.out; have := HGK.out; omega⟩, rfl⟩
    · have q1 : decide (jv < (l.length : Int)) = false := decide_eq_false (by have := HJV.out; omega)
      have q2 : (jv < (l.length : Int)) = False := eq_false (by have := HJV.out; omega)
      have HLT := Aside0.mk hlt
      clear hlt
      go_wp2
      go_ret
      exact ⟨by have h1 := HNV.out; rw [List.take_of_length_le (by have := HLT.out; omega)] at h1; rw [h1]; rfl, rfl⟩
end
end Go.Proofs.YthifdofdoeaemaaGreatDoor.Wk
end
section
namespace Go.Proofs.YthifdofdoeaemaaGreatDoor.Wk
open Go.RowKit Go.Proofs.YthifdofdoeaemaaGreatDoorW.PrintWords Go.Proofs.YthifdofdoeaemaaGreatDoorW.PrintLast Go.Proofs.YthifdofdoeaemaaGreatDoorW.PrintMore
attribute [local go_sem] max2_int min2_int max_two min_two max_three min_three max_four min_four
set_option linter.unusedVariables false
set_option linter.unusedSimpArgs false
section
open Go.RowKit Go.Lib Go.Maps Go.Proofs.YthifdofdoeaemaaGreatDoorQ
attribute [local go_sem] Oper.semAt_some
theorem rname_calls (s : ByteArray) (b : Bool) (h : goodName s = b) (w : World) : Calls Tryz.prog 82 #[.string s] w fun e w' => e = .returned (.bool b) ∧ ∃ m, w' = w.drewN m :=
  (slabvaultref09_Name.calls 100 s b w (by rw [ref_name s 100 (Nat.le_refl _), h])).mono fun _ _ h => ⟨h.1, let ⟨⟨m, hm⟩⟩ := h.2; ⟨m, hm⟩⟩
theorem rcmp_calls (a b : ByteArray) (r : Int) (h : slabvaultref07_CmpNames.f 3000000 a b = some r) (w : World) : Calls Tryz.prog 83 #[.string a, .string b] w fun e w' => e = .returned (.int .i64 r) ∧ ∃ m, w' = w.drewN m :=
  (slabvaultref07_CmpNames.calls 3000000 a b r w h).mono fun _ _ h => ⟨h.1, let ⟨⟨m, hm⟩⟩ := h.2; ⟨m, hm⟩⟩
theorem rparse_calls (s : ByteArray) (l : List ByteArray) (a y : Int) (h : parseP s = (l, a, y)) (w : World) : Calls Tryz.prog 84 #[.string s] w fun e w' => ∃ v, e = .returned (.tuple #[v, .int .i64 a, .int .i64 y]) ∧ Kd.R Kd.string 9 w' w.heap.size (fun _ => True) v l ∧ Below w.heap.size w w' :=
  (slabvaultref17_Parse.calls 5000 s l a y w (by rw [ref_parse s 5000 (Nat.le_refl _), h])).mono fun _ _ h => h
theorem good_small {s : ByteArray} (h : goodName s = true) : s.size ≤ 64 := by
  unfold goodName at h
  simp only [Bool.and_eq_true, decide_eq_true_eq] at h
  exact h.1.1.1.2
theorem below_dn3 {w : World} {n m : Nat} (h : n ≤ w.heap.size) : Below n w (w.drewN m) := (below_dn2 w m).mono h
theorem nil_text {s : ByteArray} (h : s.toList = []) : s = ⟨#[]⟩ := by
  rw [ByteArray.toList_eq] at h
  cases s
  congr
  exact Array.toList_inj.1 h
set_option maxHeartbeats 16000000 in
set_option maxRecDepth 100000 in
theorem rnode_calls (w : World) (id kind : Int) (A : Option Addr) (c : Nat) (l : List Lk) (hr : LinksR w A l) (hb : l.length ≤ bound) :
    Calls Tryz.prog 53 #[.agg #[.int .i64 id, .int .i64 kind, .slice A l.length c]] w fun e w' => MayAns kind l w e w' := by
  have HR := Aside0.mk hr
  have HB := Aside0.mk hb
  clear hr
  obtain ⟨W2, hW2⟩ : ∃ W2, W2 = w.alloc (.cells #[.int .i64 id, .int .i64 kind, .slice A l.length c] 50 (0, 0)) := ⟨_, rfl⟩
  have hb2 : Below w.heap.size w W2 := by rw [hW2]; exact below_alloc (Below.refl _ _) _
  have hc1 : W2.cell? ⟨w.heap.size, 1, none⟩ = some (.int .i64 kind) := by rw [hW2]; exact (blk_cell (World.alloc_heap_new _ _) 1).trans rfl
  have hc2 : W2.cell? ⟨w.heap.size, 2, none⟩ = some (.slice A l.length c) := by rw [hW2]; exact (blk_cell (World.alloc_heap_new _ _) 2).trans rfl
  have HB2 := Aside0.mk hb2
  have HW2 := Aside0.mk hW2
  have HR2 := Aside0.mk (HR.out.below hb2)
  clear hb2 hW2
  by_cases hkk : kind = 1 ∨ kind = 2 ∧ l = []
  rotate_left
  · have HKK := Aside0.mk hkk
    by_cases h2 : kind = 2
    · subst h2
      have HNE : Aside0 (¬ l = []) := ⟨fun e => hkk (.inr ⟨rfl, e⟩)⟩
      have hln : 0 < l.length := List.length_pos_iff.2 (fun e => hkk (.inr ⟨rfl, e⟩))
      have n1 : decide ((0 : Int) < (l.length : Int)) = true := decide_eq_true (by omega)
      clear hkk
      go_enter Tryz.func53, Tryz.ntmps53
      go_upto_region 1 with (fail)
      rw [← HW2.out]
      go_wp2
      go_ret
      exact may_no (fun h => HNE.out (h.1.elim (fun e => by cases e) (fun e => e.2))) HB2.out
    · have n1 : (kind != 1) = true := by simpa using (fun e => hkk (.inl e) : ¬ kind = 1)
      have n2 : (kind != 2) = true := by simpa using h2
      clear hkk h2
      go_enter Tryz.func53, Tryz.ntmps53
      go_upto_region 1 with (fail)
      rw [← HW2.out]
      go_wp2
      go_ret
      exact may_no (fun h => absurd h.1 HKK.out) HB2.out
  have HKK := Aside0.mk hkk
  rcases hkk with rfl | ⟨rfl, rfl⟩
  rotate_left
  · have hw2' := HW2.out
    simp only [List.length_nil] at hw2'
    have HW2' := Aside0.mk hw2'
    clear hw2'
    go_enter Tryz.func53, Tryz.ntmps53
    go_upto_region 1 with (fail)
    rw [← HW2'.out]
    go_wp2
    go_loopg [3] 0 (fun kq v3 W => v3 = .int .i64 0 ∧ W = W2)
    case atStart => exact ⟨rfl, rfl⟩
    case round =>
      obtain ⟨rfl, h0⟩ := hrel
      obtain rfl := h0.symm
      go_wp2
      go_ret
      exact may_yes ⟨.inr ⟨rfl, rfl⟩, by simp, List.Pairwise.nil⟩ HB2.out
  go_enter Tryz.func53, Tryz.ntmps53
  go_upto_region 1 with (fail)
  rw [← HW2.out]
  go_wp2
  obtain ⟨wb, hwb⟩ : ∃ wb, wb = w.heap.size := ⟨_, rfl⟩
  rw [← hwb] at hc1 hc2 ⊢
  have HWBE := Aside0.mk hwb
  clear hwb
  go_loopg [3] l.length (fun kq v3 W => ∃ (j : Nat) (jv : Int), v3 = .int .i64 jv ∧ Aside0 (jv = (j : Int)) ∧ Aside0 (j ≤ l.length ∧ l.length - j ≤ kq) ∧ Aside0 (Below W2.heap.size W2 W) ∧ Aside0 (∀ k ∈ l.take j, LkMay k) ∧ Aside0 (Names (l.take j)))
  case atStart => exact ⟨0, 0, rfl, ⟨rfl⟩, ⟨by omega, by omega⟩, ⟨Below.refl _ _⟩, ⟨by simp⟩, ⟨List.Pairwise.nil⟩⟩
  case round =>
    obtain ⟨j, jv, rfl, HJV, HJ, HBW, HLM, HNM⟩ := hrel
    have p2 : wr.cell? ⟨wb, 2, none⟩ = some (.slice A l.length c) := (HBW.out.cell (World.block_lt_of_cell? _ _ hc2)).trans hc2
    by_cases hlt : j < l.length
    · obtain ⟨k, hk⟩ : ∃ k, l[j]? = some k := ⟨_, List.getElem?_eq_getElem hlt⟩
      have HKM := Aside0.mk (List.mem_of_getElem? hk)
      have HKE := Aside0.mk hk
      have HRW := Aside0.mk (HR2.out.below HBW.out)
      obtain ⟨g5, o5, hA5, hg5, k0, k1, k2⟩ := HRW.out.at hk
      subst hA5
      have HTK : Aside0 (l.take (j + 1) = l.take j ++ [k]) := ⟨by obtain ⟨h1, e1⟩ := List.getElem?_eq_some_iff.1 hk; rw [List.take_succ_eq_append_getElem h1, e1]⟩
      have q1 : decide (jv < (l.length : Int)) = true := decide_eq_true (by have := HJV.out; omega)
      have q2 : (jv < (l.length : Int)) = True := eq_true (by have := HJV.out; omega)
      have q3 : (0 : Int) ≤ jv := by have := HJV.out; omega
      have q4 : jv.toNat = j := by have := HJV.out; omega
      obtain ⟨W5, hW5⟩ : ∃ W5, W5 = wr.alloc (.cells #[.string k.1, .int .i64 k.2.1, .string k.2.2] 42 (0, 0)) := ⟨_, rfl⟩
      have hb5 : Below wr.heap.size wr W5 := by rw [hW5]; exact below_alloc (Below.refl _ _) _
      have hx : W5.heap[wr.heap.size]? = some (.cells #[.string k.1, .int .i64 k.2.1, .string k.2.2] 42 (0, 0)) := by rw [hW5]; exact World.alloc_heap_new _ _
      obtain ⟨xb, hxb⟩ : ∃ xb, xb = wr.heap.size := ⟨_, rfl⟩
      have HW5 := Aside0.mk hW5
      have HB5 := Aside0.mk hb5
      have HLT := Aside0.mk hlt
      have HG5 := Aside0.mk hg5
      go_upto_region 7 with (fail)
      rw [← HW5.out, ← hxb]
      rw [← hxb] at hx
      have HX := Aside0.mk hx
      have y0 : W5.cell? ⟨xb, 0, none⟩ = some (.string k.1) := (blk_cell hx 0).trans rfl
      have y1 : W5.cell? ⟨xb, 1, none⟩ = some (.int .i64 k.2.1) := (blk_cell hx 1).trans rfl
      have y2 : W5.cell? ⟨xb, 2, none⟩ = some (.string k.2.2) := (blk_cell hx 2).trans rfl
      have hbw5 : Below W2.heap.size W2 W5 := HBW.out.trans (HB5.out.mono HBW.out.size)
      have HBW5 := Aside0.mk hbw5
      replace p2 : W5.cell? ⟨wb, 2, none⟩ = some (.slice (some ⟨g5, o5, none⟩) l.length c) := (hbw5.cell (World.block_lt_of_cell? _ _ hc2)).trans hc2
      have HR5 := Aside0.mk (HRW.out.below HB5.out)
      have HXB := Aside0.mk hxb
      have w1_ : wrap64 (jv + 1) = jv + 1 := wrap_ok9 _ (by omega) (by have := HJV.out; have := HB.out; unfold bound at this; omega)
      have w2_ : wrap64 (jv - 1) = jv - 1 := wrap_ok9 _ (by omega) (by have := HJV.out; have := HB.out; unfold bound at this; omega)
      clear hW5 hb5 hg5 k0 k1 k2 hx hxb hk hlt q1 q2 hbw5
      by_cases hname : goodName k.1 = true
      rotate_left
      · have HNAME : Aside0 (goodName k.1 = false) := ⟨by simpa using hname⟩
        have HBADN := Aside0.mk hname
        clear hname
        go_big_quiet ((go_at_call 82; exact Calls.quiet_of (rname_calls k.1 false HNAME.out _)))
        go_wp2
        go_ret
        exact may_no (fun h => absurd (h.2.1 k HKM.out).1 HBADN.out) (HB2.out.trans ((HBW5.out.trans (below_dn3 HBW5.out.size)).mono HB2.out.size))
      have HNAME := Aside0.mk hname
      clear hname
      by_cases hj0 : j = 0
      · have t1 : decide (0 < jv) = false := decide_eq_false (by have := HJV.out; omega)
        have HJ0 := Aside0.mk hj0
        clear hj0
        go_big_quiet ((go_at_call 82; exact Calls.quiet_of (rname_calls k.1 true HNAME.out _)))
        obtain ⟨pl, pa, py, hpp⟩ : ∃ a b c, parseP k.2.2 = (a, b, c) := ⟨_, _, _, rfl⟩
        have HPP := Aside0.mk hpp
        clear hpp
        go_upto_region 10 with (go_at_call 84; refine (rparse_calls k.2.2 pl pa py HPP.out _).mono ?_; rintro e_ w6 ⟨v6, rfl, -, hb6⟩; have HB6 := Aside0.mk hb6; clear hb6)
        have hx6 : w6.heap[xb]? = some (.cells #[.string k.1, .int .i64 k.2.1, .string k.2.2] 42 (0, 0)) := (HB6.out.block _ (blk_lt HX.out)).trans HX.out
        have z1 : w6.cell? ⟨xb, 1, none⟩ = some (.int .i64 k.2.1) := (blk_cell hx6 1).trans rfl
        have z2 : w6.cell? ⟨xb, 2, none⟩ = some (.string k.2.2) := (blk_cell hx6 2).trans rfl
        have HBW6 : Aside0 (Below W2.heap.size W2 w6) := ⟨HBW5.out.trans (((below_dn3 (Nat.le_refl _)).trans (HB6.out.mono (Nat.le_refl _))).mono HBW5.out.size)⟩
        clear hx6 y0 y1 y2 p2
        have hbad : ∀ w7, Below W2.heap.size W2 w7 → ¬ LkMay k → MayAns 1 l w (.returned (.bool false)) w7 := fun w7 h1 h2 => may_no (fun h => absurd (h.2.1 k HKM.out) h2) (HB2.out.trans (h1.mono HB2.out.size))
        have HBAD := Aside0.mk hbad
        clear hbad
        by_cases h0 : k.2.1 = 0
        · rw [h0] at z1
          by_cases hpy : py = 0
          · have HLINK : Aside0 (LkMay k) := ⟨HNAME.out, .inl ⟨h0, by rw [HPP.out]; exact hpy⟩⟩
            subst hpy
            clear h0
            go_wp2
            clear q4
            go_roundg (gk - 1)
            case measure => have := HJ.out; have := HLT.out; omega
            case rel => exact ⟨j + 1, jv + 1, by first | rfl | rw [w1_], ⟨by have := HJV.out; omega⟩, ⟨by have := HLT.out; omega, by have := HJ.out; omega⟩, HBW6, ⟨by rw [HTK.out]; exact fun z hz => (List.mem_append.1 hz).elim (HLM.out z) (fun h => by rw [List.mem_singleton.1 h]; exact HLINK.out)⟩, ⟨by rw [HTK.out]; exact names_snoc HNM.out (fun m z hz hm => by rw [List.length_take] at hm; have := HLT.out; have := HJ0.out; omega)⟩⟩
          · have HNL : Aside0 (¬ LkMay k) := ⟨fun h => by
              rcases h.2 with ⟨-, h2⟩ | ⟨h2, -⟩
              · rw [HPP.out] at h2; exact hpy h2
              · omega⟩
            have n1 : (py != 0) = true := by simpa using hpy
            clear h0 hpy
            go_wp2
            go_ret
            exact HBAD.out _ HBW6.out HNL.out
        have v00 : (k.2.1 == 0) = false := by simpa using h0
        by_cases hneg : k.2.1 < 0
        · have n1 : decide (k.2.1 < 0) = true := decide_eq_true hneg
          have HNL : Aside0 (¬ LkMay k) := ⟨fun h => by rcases h.2 with ⟨h2, -⟩ | ⟨h2, -⟩ <;> omega⟩
          clear hneg h0
          go_wp2
          go_ret
          exact HBAD.out _ HBW6.out HNL.out
        have n0 : decide (k.2.1 < 0) = false := decide_eq_false hneg
        have n0' : decide (0 < k.2.1) = true := decide_eq_true (by omega)
        by_cases hone : k.2.1 = 1
        · have HNL : Aside0 (¬ LkMay k) := ⟨fun h => by rcases h.2 with ⟨h2, -⟩ | ⟨h2, -⟩ <;> omega⟩
          rw [hone] at z1
          clear hneg h0 hone n0 n0' v00
          go_wp2
          go_ret
          exact HBAD.out _ HBW6.out HNL.out
        have n1 : (k.2.1 == 1) = false := by simpa using hone
        by_cases hsoft : k.2.2 = ⟨#[]⟩
        · have HLINK : Aside0 (LkMay k) := ⟨HNAME.out, .inr ⟨by omega, hsoft⟩⟩
          rw [hsoft] at z2
          clear hneg h0 hone hsoft
          go_wp2
          clear q4
          go_roundg (gk - 1)
          case measure => have := HJ.out; have := HLT.out; omega
          case rel => exact ⟨j + 1, jv + 1, by first | rfl | rw [w1_], ⟨by have := HJV.out; omega⟩, ⟨by have := HLT.out; omega, by have := HJ.out; omega⟩, HBW6, ⟨by rw [HTK.out]; exact fun z hz => (List.mem_append.1 hz).elim (HLM.out z) (fun h => by rw [List.mem_singleton.1 h]; exact HLINK.out)⟩, ⟨by rw [HTK.out]; exact names_snoc HNM.out (fun m z hz hm => by rw [List.length_take] at hm; have := HLT.out; have := HJ0.out; omega)⟩⟩
        have HNL : Aside0 (¬ LkMay k) := ⟨fun h => by
          rcases h.2 with ⟨h2, -⟩ | ⟨-, h2⟩
          · omega
          · exact hsoft h2⟩
        have n2 : (k.2.2.toList != []) = true := by simpa using (fun e => hsoft (nil_text e))
        have n3 : ¬ k.2.2.toList = [] := fun e => hsoft (nil_text e)
        have n4 : (k.2.2.toList == []) = false := by simpa using (fun e => hsoft (nil_text e))
        clear hneg h0 hone hsoft
        go_wp2
        go_ret
        exact HBAD.out _ HBW6.out HNL.out
      obtain ⟨i, hi⟩ : ∃ i, j = i + 1 := ⟨j - 1, by omega⟩
      obtain ⟨k', hk'⟩ : ∃ k', l[i]? = some k' := ⟨_, List.getElem?_eq_getElem (by have := HLT.out; omega)⟩
      obtain ⟨g6, o6, hA6, -, x0, -, -⟩ := HR5.out.at hk'
      obtain ⟨rfl, rfl⟩ : g5 = g6 ∧ o5 = o6 := by simpa using hA6
      have HK' := Aside0.mk hk'
      have HGK' : Aside0 (goodName k'.1 = true) := ⟨(HLM.out k' (List.mem_of_getElem? (i := i) (by rw [List.getElem?_take_of_lt (show i < j by omega)]; exact hk'))).1⟩
      have t1 : decide (0 < jv) = true := decide_eq_true (by have := HJV.out; omega)
      have v1 : (jv - 1).toNat = i := by have := HJV.out; omega
      have v2 : (0 : Int) ≤ jv - 1 := by have := HJV.out; omega
      have v3 : (1 : Int) ≤ jv := by omega
      have v4 : jv ≤ (l.length : Int) := by have := HJV.out; have := HLT.out; omega
      have v5 : (jv - 1 < (l.length : Int)) = True := eq_true (by omega)
      have v6 : ((0 : Int) ≤ jv - 1) = True := eq_true v2
      have v7 : ((1 : Int) ≤ jv) = True := eq_true v3
      have v8 : (jv ≤ (l.length : Int)) = True := eq_true v4
      have HIJ := Aside0.mk hi
      obtain ⟨r, hrr, hrb⟩ := ref_cmp k'.1 k.1 (by have := good_small HGK'.out; omega) (by have := good_small HNAME.out; omega)
      have HRR := Aside0.mk hrr
      have HRB := Aside0.mk hrb
      clear hA6 hk' hj0 hi hrr hrb
      by_cases hrn : r < 0
      rotate_left
      · have t2 : decide (0 ≤ r) = true := decide_eq_true (by omega)
        have HNB : Aside0 (¬ bytesBefore k'.1.data.toList k.1.data.toList = true) := ⟨fun e => hrn (HRB.out.2 e)⟩
        clear hrn
        go_big_quiet ((first | (go_at_call 82; exact Calls.quiet_of (rname_calls k.1 true HNAME.out _)) | (go_at_call 83; exact Calls.quiet_of (rcmp_calls k'.1 k.1 r HRR.out _))))
        go_wp2
        go_ret
        exact may_no (fun h => HNB.out (names_at h.2.2 HK'.out HKE.out (by have := HIJ.out; omega))) (HB2.out.trans ((HBW5.out.trans (below_dn3 HBW5.out.size)).mono HB2.out.size))
      have t2 : decide (0 ≤ r) = false := decide_eq_false (by omega)
      have HBEF : Aside0 (bytesBefore k'.1.data.toList k.1.data.toList = true) := ⟨HRB.out.1 hrn⟩
      clear hrn
      go_big_quiet ((first | (go_at_call 82; exact Calls.quiet_of (rname_calls k.1 true HNAME.out _)) | (go_at_call 83; exact Calls.quiet_of (rcmp_calls k'.1 k.1 r HRR.out _))))
      clear x0 t1 t2 v1 v2 v3 v4 v5 v6 v7 v8
      obtain ⟨pl, pa, py, hpp⟩ : ∃ a b c, parseP k.2.2 = (a, b, c) := ⟨_, _, _, rfl⟩
      have HPP := Aside0.mk hpp
      clear hpp
      go_upto_region 10 with (go_at_call 84; refine (rparse_calls k.2.2 pl pa py HPP.out _).mono ?_; rintro e_ w6 ⟨v6, rfl, -, hb6⟩; have HB6 := Aside0.mk hb6; clear hb6)
      have hx6 : w6.heap[xb]? = some (.cells #[.string k.1, .int .i64 k.2.1, .string k.2.2] 42 (0, 0)) := (HB6.out.block _ (blk_lt HX.out)).trans HX.out
      have z1 : w6.cell? ⟨xb, 1, none⟩ = some (.int .i64 k.2.1) := (blk_cell hx6 1).trans rfl
      have z2 : w6.cell? ⟨xb, 2, none⟩ = some (.string k.2.2) := (blk_cell hx6 2).trans rfl
      have HBW6 : Aside0 (Below W2.heap.size W2 w6) := ⟨HBW5.out.trans (((below_dn3 (Nat.le_refl _)).trans (HB6.out.mono (Nat.le_refl _))).mono HBW5.out.size)⟩
      clear hx6 y0 y1 y2 p2
      have hbad : ∀ w7, Below W2.heap.size W2 w7 → ¬ LkMay k → MayAns 1 l w (.returned (.bool false)) w7 := fun w7 h1 h2 => may_no (fun h => absurd (h.2.1 k HKM.out) h2) (HB2.out.trans (h1.mono HB2.out.size))
      have HBAD := Aside0.mk hbad
      clear hbad
      by_cases h0 : k.2.1 = 0
      · rw [h0] at z1
        by_cases hpy : py = 0
        · have HLINK : Aside0 (LkMay k) := ⟨HNAME.out, .inl ⟨h0, by rw [HPP.out]; exact hpy⟩⟩
          subst hpy
          clear h0
          go_wp2
          clear q4
          go_roundg (gk - 1)
          case measure => have := HJ.out; have := HLT.out; omega
          case rel => exact ⟨j + 1, jv + 1, by first | rfl | rw [w1_], ⟨by have := HJV.out; omega⟩, ⟨by have := HLT.out; omega, by have := HJ.out; omega⟩, HBW6, ⟨by rw [HTK.out]; exact fun z hz => (List.mem_append.1 hz).elim (HLM.out z) (fun h => by rw [List.mem_singleton.1 h]; exact HLINK.out)⟩, ⟨by rw [HTK.out]; exact names_snoc HNM.out (fun m z hz hm => by
                  rw [List.length_take] at hm
                  have e1 : m = i := by have := HIJ.out; have := HLT.out; omega
                  rw [e1, List.getElem?_take_of_lt (by have := HIJ.out; omega), HK'.out] at hz
                  rw [← Option.some.inj hz]
                  exact HBEF.out)⟩⟩
        · have HNL : Aside0 (¬ LkMay k) := ⟨fun h => by
            rcases h.2 with ⟨-, h2⟩ | ⟨h2, -⟩
            · rw [HPP.out] at h2; exact hpy h2
            · omega⟩
          have n1 : (py != 0) = true := by simpa using hpy
          clear h0 hpy
          go_wp2
          go_ret
          exact HBAD.out _ HBW6.out HNL.out
      have v00 : (k.2.1 == 0) = false := by simpa using h0
      by_cases hneg : k.2.1 < 0
      · have n1 : decide (k.2.1 < 0) = true := decide_eq_true hneg
        have HNL : Aside0 (¬ LkMay k) := ⟨fun h => by rcases h.2 with ⟨h2, -⟩ | ⟨h2, -⟩ <;> omega⟩
        clear hneg h0
        go_wp2
        go_ret
        exact HBAD.out _ HBW6.out HNL.out
      have n0 : decide (k.2.1 < 0) = false := decide_eq_false hneg
      have n0' : decide (0 < k.2.1) = true := decide_eq_true (by omega)
      by_cases hone : k.2.1 = 1
      · have HNL : Aside0 (¬ LkMay k) := ⟨fun h => by rcases h.2 with ⟨h2, -⟩ | ⟨h2, -⟩ <;> omega⟩
        rw [hone] at z1
        clear hneg h0 hone n0 n0' v00
        go_wp2
        go_ret
        exact HBAD.out _ HBW6.out HNL.out
      have n1 : (k.2.1 == 1) = false := by simpa using hone
      by_cases hsoft : k.2.2 = ⟨#[]⟩
      · have HLINK : Aside0 (LkMay k) := ⟨HNAME.out, .inr ⟨by omega, hsoft⟩⟩
        rw [hsoft] at z2
        clear hneg h0 hone hsoft
        go_wp2
        clear q4
        go_roundg (gk - 1)
        case measure => have := HJ.out; have := HLT.out; omega
        case rel => exact ⟨j + 1, jv + 1, by first | rfl | rw [w1_], ⟨by have := HJV.out; omega⟩, ⟨by have := HLT.out; omega, by have := HJ.out; omega⟩, HBW6, ⟨by rw [HTK.out]; exact fun z hz => (List.mem_append.1 hz).elim (HLM.out z) (fun h => by rw [List.mem_singleton.1 h]; exact HLINK.out)⟩, ⟨by rw [HTK.out]; exact names_snoc HNM.out (fun m z hz hm => by
                rw [List.length_take] at hm
                have e1 : m = i := by have := HIJ.out; have := HLT.out; omega
                rw [e1, List.getElem?_take_of_lt (by have := HIJ.out; omega), HK'.out] at hz
                rw [← Option.some.inj hz]
                exact HBEF.out)⟩⟩
      have HNL : Aside0 (¬ LkMay k) := ⟨fun h => by
        rcases h.2 with ⟨h2, -⟩ | ⟨-, h2⟩
        · omega
        · exact hsoft h2⟩
      have n2 : (k.2.2.toList != []) = true := by simpa using (fun e => hsoft (nil_text e))
      have n3 : ¬ k.2.2.toList = [] := fun e => hsoft (nil_text e)
      have n4 : (k.2.2.toList == []) = false := by simpa using (fun e => hsoft (nil_text e))
      clear hneg h0 hone hsoft
      go_wp2
      go_ret
      exact HBAD.out _ HBW6.out HNL.out
    · have q1 : decide (jv < (l.length : Int)) = false := decide_eq_false (by have := HJV.out; omega)
      have q2 : (jv < (l.length : Int)) = False := eq_false (by have := HJV.out; omega)
      have HLT := Aside0.mk hlt
      clear hlt
      go_wp2
      go_ret
      exact may_yes ⟨.inl rfl, by have := HLM.out; rw [List.take_of_length_le (by have := HLT.out; omega)] at this; exact this, by have := HNM.out; rw [List.take_of_length_le (by have := HLT.out; omega)] at this; exact this⟩ (HB2.out.trans (HBW.out.mono HB2.out.size))
end
end Go.Proofs.YthifdofdoeaemaaGreatDoor.Wk
end
section
namespace Go.Proofs.YthifdofdoeaemaaGreatDoor.Wk
open Go.RowKit Go.Proofs.YthifdofdoeaemaaGreatDoorW.PrintWords Go.Proofs.YthifdofdoeaemaaGreatDoorW.PrintLast Go.Proofs.YthifdofdoeaemaaGreatDoorW.PrintMore
attribute [local go_sem] max2_int min2_int max_two min_two max_three min_three max_four min_four
set_option linter.unusedVariables false
set_option linter.unusedSimpArgs false
section
open Go.RowKit Go.Lib Go.Maps Go.Proofs.YthifdofdoeaemaaGreatDoorQ
attribute [local go_sem] Oper.semAt_some
def falses (bl : List Bool) : Nat := bl.countP (fun b => !b)
theorem falses_set : ∀ {bl : List Bool} {n : Nat}, bl[n]? = some false → falses (bl.set n true) + 1 = falses bl
  | [], _, h => by cases h
  | b :: t, 0, h => by cases h; simp [falses]
  | b :: t, n + 1, h => by
    have := falses_set (bl := t) (n := n) (by simpa using h)
    unfold falses at this ⊢
    rw [List.set_cons_succ, List.countP_cons, List.countP_cons]
    omega
theorem falses_le (bl : List Bool) : falses bl ≤ bl.length := List.countP_le_length
def DoneTo (l : List (Int × GO)) (bl : List Bool) (j k : Nat) : Prop := ∀ (x : Int × GO), l[j]? = some x → bl[j]? = some true → ∀ (m : Nat) (z : Lk), m < k → x.2.links[m]? = some z → ∀ (n : Nat) (y : Int × GO), l[n]? = some y → y.1 = z.2.1 → bl[n]? = some true
structure ReB (l : List (Int × GO)) (bl : List Bool) : Prop where
  len : bl.length = l.length
  sound : ∀ (i : Nat) (x : Int × GO), l[i]? = some x → bl[i]? = some true → Rch (grL l) x.1
  root : ∀ (i : Nat) (x : Int × GO), l[i]? = some x → x.1 = 1 → bl[i]? = some true
def ReO (l : List (Int × GO)) (bl : List Bool) (av : Bool) (kq : Nat) : Prop := ReB l bl ∧ (av = true ∧ falses bl + 1 ≤ kq ∨ av = false ∧ ∀ j k, DoneTo l bl j k)
def ReI (l : List (Int × GO)) (bl0 : List Bool) (i k : Nat) (bl : List Bool) (av : Bool) : Prop := ReB l bl ∧ (av = true ∧ falses bl < falses bl0 ∨ av = false ∧ bl = bl0 ∧ (∀ j k, j < i → DoneTo l bl j k) ∧ DoneTo l bl i k)
theorem re_start {l : List (Int × GO)} {bl : List Bool} (h : ReB l bl) : ReI l bl 0 0 bl false := ⟨h, .inr ⟨rfl, rfl, fun j k hj => (by omega), fun x _ _ m z hm => (by omega)⟩⟩
theorem re_old {l : List (Int × GO)} {bl0 bl : List Bool} {i k : Nat} {av : Bool} (ha : Asc l) (h : ReI l bl0 i k bl av) {x : Int × GO} (hx : l[i]? = some x) {z : Lk} (hz : x.2.links[k]? = some z) {r : Int} (hr : AtP l z.2.1 r) (ho : r < 0 ∨ ∃ n : Nat, r = (n : Int) ∧ bl[n]? = some true) : ReI l bl0 i (k + 1) bl av := by
  refine ⟨h.1, h.2.imp id (fun ⟨h1, h2, h3, h4⟩ => ⟨h1, h2, h3, fun x' hx' hb m z' hm hz' n y hn hy => ?_⟩)⟩
  by_cases hmk : m < k
  · exact h4 x' hx' hb m z' hmk hz' n y hn hy
  · have hme : m = k := by omega
    subst hme
    rw [hx] at hx'
    cases hx'
    rw [hz] at hz'
    cases hz'
    rcases hr with ⟨i', y', h5, h6, h7⟩ | ⟨-, h5⟩
    · have hnn : i' = n := by
        have e1 := (List.getElem?_eq_some_iff.1 h5).1
        have e2 := (List.getElem?_eq_some_iff.1 hn).1
        have e3 := (List.getElem?_eq_some_iff.1 h5).2
        have e4 := (List.getElem?_eq_some_iff.1 hn).2
        rcases Nat.lt_trichotomy i' n with h | h | h
        · have := asc_get ha h e2; rw [e3, e4] at this; omega
        · exact h
        · have := asc_get ha h e1; rw [e3, e4] at this; omega
      subst hnn
      rcases ho with ho | ⟨n', h8, h9⟩
      · omega
      · have : n' = i' := by omega
        rw [← this]; exact h9
    · exact absurd hy (h5 y (List.mem_of_getElem? hn))
theorem re_new {l : List (Int × GO)} {bl0 bl : List Bool} {i k : Nat} {av : Bool} (hp : ∀ x ∈ l, 0 < x.1) (h : ReI l bl0 i k bl av) {x : Int × GO} (hx : l[i]? = some x) (hb : bl[i]? = some true) {z : Lk} (hz : x.2.links[k]? = some z) {n : Nat} {y : Int × GO} (hn : l[n]? = some y) (hy : y.1 = z.2.1) (hf : bl[n]? = some false) : ReI l bl0 i (k + 1) (bl.set n true) true := by
  have hs := falses_set hf
  refine ⟨⟨by rw [List.length_set]; exact h.1.len, fun j x' hj hb' => ?_, fun j x' hj h1 => ?_⟩, .inl ⟨rfl, ?_⟩⟩
  · by_cases e : n = j
    · subst e
      rw [hn] at hj
      cases hj
      rw [hy]
      exact Rch.step (o := x.2) (h.1.sound i x hx hb) (List.mem_of_getElem? hx) (List.mem_of_getElem? hz) (by rw [← hy]; exact hp _ (List.mem_of_getElem? hn))
    · rw [List.getElem?_set_ne e] at hb'
      exact h.1.sound j x' hj hb'
  · by_cases e : n = j
    · subst e
      rw [List.getElem?_set_self (by rw [h.1.len]; exact (List.getElem?_eq_some_iff.1 hn).1)]
    · rw [List.getElem?_set_ne e]
      exact h.1.root j x' hj h1
  · rcases h.2 with ⟨-, h1⟩ | ⟨-, h1, -⟩
    · omega
    · subst h1; omega
theorem re_next {l : List (Int × GO)} {bl0 bl : List Bool} {i k : Nat} {av : Bool} (h : ReI l bl0 i k bl av) {x : Int × GO} (hx : l[i]? = some x) (hk : x.2.links.length ≤ k ∨ bl[i]? = some false) : ReI l bl0 (i + 1) 0 bl av := by
  refine ⟨h.1, h.2.imp id (fun ⟨h1, h2, h3, h4⟩ => ⟨h1, h2, fun j m hj => ?_, fun _ _ _ m _ hm => (by omega)⟩)⟩
  by_cases e : j < i
  · exact h3 j m e
  · have : j = i := by omega
    subst this
    intro x' hx' hb m' z hm hz
    rw [hx] at hx'
    cases hx'
    rcases hk with hk | hk
    · exact h4 _ hx hb m' z (by have := (List.getElem?_eq_some_iff.1 hz).1; omega) hz
    · rw [hk] at hb; cases hb
theorem re_again {l : List (Int × GO)} {bl0 bl : List Bool} {i k kq : Nat} {av : Bool} (h : ReI l bl0 i k bl av) (hi : l.length ≤ i) (hk : falses bl0 ≤ kq) : ReO l bl av kq := by
  refine ⟨h.1, h.2.imp (fun ⟨h1, h2⟩ => ⟨h1, by omega⟩) (fun ⟨h1, h2, h3, h4⟩ => ⟨h1, fun j m x hx => ?_⟩)⟩
  exact h3 j m (by have := (List.getElem?_eq_some_iff.1 hx).1; omega) x hx
theorem re_end {l : List (Int × GO)} {bl : List Bool} {kq : Nat} (h : ReO l bl false kq) (h1 : has l 1) {i : Nat} {x : Int × GO} (hx : l[i]? = some x) (ha : Asc l) : bl[i]? = some true ↔ Rch (grL l) x.1 := by
  refine ⟨h.1.sound i x hx, fun hr => ?_⟩
  have hd : ∀ j k, DoneTo l bl j k := h.2.elim (fun h => by cases h.1) (fun h => h.2)
  have : ∀ id, Rch (grL l) id → ∀ (i : Nat) (x : Int × GO), l[i]? = some x → x.1 = id → bl[i]? = some true := fun id hr => by
    induction hr with
    | root => exact fun i x hx h2 => h.1.root i x hx h2
    | step _ ho hk _ ih =>
      intro i x hx h2
      obtain ⟨j, hj⟩ := List.mem_iff_getElem?.1 ho
      obtain ⟨m, hm⟩ := List.mem_iff_getElem?.1 hk
      exact hd j (m + 1) _ hj (ih j _ hj rfl) m _ (Nat.lt_succ_self m) hm i x hx h2
  exact this x.1 hr i x hx rfl
theorem at_has {l : List (Int × GO)} {id r : Int} (h : AtP l id r) (hh : has l id) : ∃ (n : Nat) (x : Int × GO), l[n]? = some x ∧ x.1 = id ∧ r = (n : Int) ∧ n < l.length := by
  rcases h with ⟨n, x, h1, h2, h3⟩ | ⟨-, h1⟩
  · exact ⟨n, x, h1, h2, h3, (List.getElem?_eq_some_iff.1 h1).1⟩
  · obtain ⟨o, ho⟩ := hh
    exact absurd rfl (h1 _ ho)
def BoolsAt (W : World) (b : Nat) (bl : List Bool) : Prop := W.heap[b]? = some (.cells (bl.map Value.bool).toArray 4 (0, 0))
theorem BoolsAt.cell {W : World} {b : Nat} {bl : List Bool} (h : BoolsAt W b bl) {j : Nat} {v : Bool} (hj : bl[j]? = some v) : W.cell? ⟨b, j, none⟩ = some (.bool v) := (blk_cell h j).trans (by simp [hj])
theorem BoolsAt.set {W : World} {b : Nat} {bl : List Bool} (h : BoolsAt W b bl) (j : Nat) (v : Bool) : BoolsAt (W.setCell ⟨b, j, none⟩ (.bool v)) b (bl.set j v) := (blk_set h j _).trans (by simp [List.map_set])
theorem bools_made (W : World) (n : Nat) : BoolsAt (W.alloc (.cells (madeCells #[.bool false] n) 4 (0, 0))) W.heap.size (List.replicate n false) := by
  unfold BoolsAt
  rw [World.alloc_heap_new]
  congr 2
  apply Array.ext
  · simp [madeCells]
  · intro i h1 h2
    simp [madeCells, Nat.mod_one]
theorem reB_start {l : List (Int × GO)} (ha : Asc l) {n : Nat} {x : Int × GO} (hn : l[n]? = some x) (h1 : x.1 = 1) : ReB l ((List.replicate l.length false).set n true) := by
  have key : ∀ (i : Nat) (y : Int × GO), l[i]? = some y → (((List.replicate l.length false).set n true)[i]? = some true ↔ i = n) := fun i y hy => by
    have hi := (List.getElem?_eq_some_iff.1 hy).1
    by_cases e : n = i
    · subst e
      rw [List.getElem?_set_self (by simpa using hi)]
      simp
    · rw [List.getElem?_set_ne e]
      simp [hi]
      omega
  refine ⟨by simp, fun i y hy hb => ?_, fun i y hy h2 => (key i y hy).2 ?_⟩
  · have e := (key i y hy).1 hb
    subst e
    rw [hn] at hy
    cases hy
    rw [h1]
    exact .root
  · have e1 := (List.getElem?_eq_some_iff.1 hn).1
    have e2 := (List.getElem?_eq_some_iff.1 hy).1
    have e3 := (List.getElem?_eq_some_iff.1 hn).2
    have e4 := (List.getElem?_eq_some_iff.1 hy).2
    rcases Nat.lt_trichotomy n i with h | h | h
    · have := asc_get ha h e2; rw [e3, e4] at this; omega
    · exact h.symm
    · have := asc_get ha h e1; rw [e3, e4] at this; omega
set_option maxHeartbeats 8000000 in
set_option maxRecDepth 100000 in
theorem refReached_calls (w : World) (g : Nat) (next : Int) (A : Option Addr) (c : Nat) (l : List (Int × GO)) (hr : RefR w g next A c l) (ha : Asc l) (hp : ∀ x ∈ l, 0 < x.1) (h1 : has l 1) (hb : l.length ≤ 1000) (hlb : ∀ x ∈ l, x.2.links.length ≤ bound) :
    Calls Tryz.prog 55 #[.pointer (some ⟨g, 0, none⟩)] w fun e w' => ∃ wb bl, e = .returned (.slice (some ⟨wb, 0, none⟩) l.length l.length) ∧ w.heap.size ≤ wb ∧ BoolsAt w' wb bl ∧ bl.length = l.length ∧ (∀ (i : Nat) x, l[i]? = some x → (bl[i]? = some true ↔ Rch (grL l) x.1)) ∧ Below w.heap.size w w' := by
  have HR := Aside0.mk hr
  have HA := Aside0.mk ha
  have HP := Aside0.mk hp
  have H1 := Aside0.mk h1
  have HB := Aside0.mk hb
  have HLB := Aside0.mk hlb
  have c1 := hr.c1
  have hmk : ∀ W : World, (Instr.makeSlice 107 (.int .i64 (l.length : Int)) (.int .i64 (l.length : Int))).run Tryz.prog W = .ok (.slice (some ⟨W.heap.size, 0, none⟩) l.length l.length) (W.alloc (.cells (madeCells #[.bool false] l.length) 4 (0, 0))) := by
    intro W
    have := print_make_int (P := Tryz.prog) 107 4 (.bool false) 1 Tryz.underlying107 (by kernel_rfl) rfl (by omega) l.length (by omega) (by omega) W
    simpa using this
  obtain ⟨o1, ho1⟩ := h1
  obtain ⟨W1, hW1⟩ : ∃ W1, W1 = w.alloc (.cells (madeCells #[.bool false] l.length) 4 (0, 0)) := ⟨_, rfl⟩
  have hb1 : Below w.heap.size w W1 := by rw [hW1]; exact below_alloc (Below.refl _ _) _
  have hB1 : BoolsAt W1 w.heap.size (List.replicate l.length false) := by rw [hW1]; exact bools_made w _
  have HW1 := Aside0.mk hW1
  have HB1 := Aside0.mk hb1
  have HBA := Aside0.mk hB1
  have HR1 := Aside0.mk (hr.below hb1)
  obtain ⟨wb, hwb⟩ : ∃ wb, wb = w.heap.size := ⟨_, rfl⟩
  have HWB := Aside0.mk hwb
  clear hr ha hp hb hlb hb1 hB1 hW1 ho1
  go_enter Tryz.func55, Tryz.ntmps55
  go_upto_region 2 with (fail)
  rw [← HW1.out, ← hwb]
  clear hmk hwb c1
  go_upto_region 3 with (go_at_call 56; refine (refAt_calls _ g next A c l 1 HR1.out (by have := HB.out; unfold bound; omega)).mono ?_; rintro e_ w2 ⟨r, hra, rfl, rfl⟩; obtain ⟨n0, x0, hn0, hx0, hrn, hnl⟩ := at_has hra H1.out; have a1 : (0 : Int) ≤ r := (by omega); have a2 : r < (l.length : Int) := (by omega); have a3 : r.toNat = n0 := (by omega); have HN0 := Aside0.mk (And.intro hn0 hx0); clear hra hn0 hx0 hrn hnl; have hB2 : BoolsAt w2 wb (List.replicate l.length false) := (by rw [HWB.out]; exact HBA.out); have f1 : w2.frozen? ⟨wb, n0, none⟩ = false := blk_frozen hB2 n0; have f2 : w2.cell? ⟨wb, n0, none⟩ = some (.bool false) := hB2.cell (by rw [List.getElem?_replicate]; exact if_pos (by omega)); clear hB2)
  obtain ⟨W3, hW3⟩ : ∃ W3, W3 = w2.setCell ⟨wb, n0, none⟩ (.bool true) := ⟨_, rfl⟩
  rw [← hW3]
  have HBS : Aside0 (BoolsAt W3 wb ((List.replicate l.length false).set n0 true)) := ⟨by rw [hW3, HWB.out]; exact HBA.out.set n0 true⟩
  have HB3 : Aside0 (Below w.heap.size w W3) := ⟨by rw [hW3]; exact HB1.out.setCell (by rw [HWB.out]; exact Nat.le_refl _) _⟩
  have HRB : Aside0 (ReB l ((List.replicate l.length false).set n0 true)) := ⟨reB_start HA.out HN0.out.1 HN0.out.2⟩
  clear a1 a2 a3 f1 f2 hW3
  go_upto_region 4 with (fail)
  go_loopg [4] (l.length + 1) (fun kq v4 W => ∃ (av : Bool) (bl : List Bool), v4 = .bool av ∧ Aside0 (BoolsAt W wb bl) ∧ Aside0 (Below w.heap.size w W) ∧ Aside0 (ReO l bl av kq))
  case atStart => exact ⟨true, _, rfl, HBS, HB3, ⟨HRB.out, .inl ⟨rfl, by have := falses_le ((List.replicate l.length false).set n0 true); rw [HRB.out.len] at this; omega⟩⟩⟩
  case round =>
    obtain ⟨av, bl0, rfl, HBL0, HBW0, HRE⟩ := hrel
    clear HBS HB3 HRB HW1 HBA HR1 HB1
    cases hav : av
    · rw [hav] at HRE
      go_wp2
      go_ret
      exact ⟨wb, bl0, rfl, by have := HWB.out; omega, HBL0.out, HRE.out.1.len, fun i x hx => re_end HRE.out H1.out hx HA.out, HBW0.out⟩
    rw [hav] at HRE
    have HF : Aside0 (falses bl0 + 1 ≤ gk) := ⟨HRE.out.2.elim (fun h => h.2) (fun h => by cases h.1)⟩
    have HST : Aside0 (ReI l bl0 0 0 bl0 false) := ⟨re_start HRE.out.1⟩
    obtain ⟨gk0, HGK⟩ : ∃ gk0, Aside0 (gk0 = gk) := ⟨_, ⟨rfl⟩⟩
    clear HRE hav
    go_upto_region 7 with (fail)
    go_loopg [4, 5] l.length (fun kq v4 v5 W => ∃ (i : Nat) (iv : Int) (av : Bool) (bl : List Bool), v4 = .bool av ∧ v5 = .int .i64 iv ∧ Aside0 (iv = (i : Int)) ∧ Aside0 (i ≤ l.length ∧ l.length - i ≤ kq) ∧ Aside0 (BoolsAt W wb bl) ∧ Aside0 (Below w.heap.size w W) ∧ Aside0 (ReI l bl0 i 0 bl av))
    case atStart => exact ⟨0, 0, false, bl0, rfl, rfl, ⟨rfl⟩, ⟨by omega, by omega⟩, HBL0, HBW0, HST⟩
    case round =>
      obtain ⟨i, iv, av1, bl1, rfl, rfl, HIV, HI, HBL1, HBW1, HRI⟩ := hrel
      have c1 := (HR.out.below HBW1.out).c1
      by_cases hlt : i < l.length
      · obtain ⟨x, hx⟩ : ∃ x, l[i]? = some x := ⟨_, List.getElem?_eq_getElem hlt⟩
        have q1 : decide (iv < (l.length : Int)) = true := decide_eq_true (by have := HIV.out; omega)
        have q2 : (iv < (l.length : Int)) = True := eq_true (by have := HIV.out; omega)
        have q3 : (0 : Int) ≤ iv := by have := HIV.out; omega
        have q4 : iv.toNat = i := by have := HIV.out; omega
        have w1_ : wrap64 (iv + 1) = iv + 1 := wrap_ok9 _ (by omega) (by have := HIV.out; have := HB.out; omega)
        have HLT := Aside0.mk hlt
        have HX := Aside0.mk hx
        have HXB := Aside0.mk (HLB.out x (List.mem_of_getElem? hx))
        obtain ⟨gk1, HGK1⟩ : ∃ gk1, Aside0 (gk1 = gk) := ⟨_, ⟨rfl⟩⟩
        clear hx hlt
        go_upto_region 10 with (fail)
        clear c1
        go_loopg [4, 6] x.2.links.length (fun kq v4 v6 W => ∃ (k : Nat) (kv : Int) (av : Bool) (bl : List Bool), v4 = .bool av ∧ v6 = .int .i64 kv ∧ Aside0 (kv = (k : Int)) ∧ Aside0 (k ≤ x.2.links.length ∧ x.2.links.length - k ≤ kq) ∧ Aside0 (BoolsAt W wb bl) ∧ Aside0 (Below w.heap.size w W) ∧ Aside0 (ReI l bl0 i k bl av))
        case atStart => exact ⟨0, 0, av1, bl1, rfl, rfl, ⟨rfl⟩, ⟨by omega, by omega⟩, HBL1, HBW1, HRI⟩
        case round =>
          obtain ⟨k, kv, av2, bl2, rfl, rfl, HKV, HK, HBL2, HBW2, HRK⟩ := hrel
          have HRR := Aside0.mk (HR.out.below HBW2.out)
          have c1 := HRR.out.c1
          obtain ⟨b, o, Ax, cx, rfl, -, -, -, x2, -, -, hxr⟩ := HRR.out.objs.at HX.out
          have HXR := Aside0.mk hxr
          clear hxr
          have hbl : bl2.length = l.length := HRK.out.1.len
          obtain ⟨bi, hbi⟩ : ∃ bi, bl2[i]? = some bi := ⟨_, List.getElem?_eq_getElem (by have := HLT.out; omega)⟩
          have d1 := HBL2.out.cell hbi
          have HBI := Aside0.mk hbi
          have HLEN := Aside0.mk hbl
          clear hbi hbl
          by_cases hkt : k < x.2.links.length
          · have p1 : decide (kv < (x.2.links.length : Int)) = true := decide_eq_true (by have := HKV.out; omega)
            cases bi
            · go_wp2
              clear q4
              go_roundg (gk1 - 1)
              case measure => have := HI.out; have := HLT.out; have := HGK1.out; omega
              case rel => exact ⟨i + 1, iv + 1, av2, bl2, rfl, by first | rfl | rw [w1_], ⟨by have := HIV.out; omega⟩, ⟨by have := HLT.out; omega, by have := HI.out; have := HGK1.out; omega⟩, HBL2, HBW2, ⟨re_next HRK.out HX.out (.inr HBI.out)⟩⟩
            · obtain ⟨z, hz⟩ : ∃ z, x.2.links[k]? = some z := ⟨_, List.getElem?_eq_getElem hkt⟩
              obtain ⟨b2, o2, rfl, -, -, z1, -⟩ := HXR.out.at hz
              have p2 : (kv < (x.2.links.length : Int)) = True := eq_true (by have := HKV.out; omega)
              have p3 : (0 : Int) ≤ kv := by have := HKV.out; omega
              have p4 : kv.toNat = k := by have := HKV.out; omega
              have w2_ : wrap64 (kv + 1) = kv + 1 := wrap_ok9 _ (by omega) (by have := HKV.out; have := HXB.out; unfold bound at this; omega)
              have HZ := Aside0.mk hz
              have HKT := Aside0.mk hkt
              clear hz hkt
              go_upto_region 13 with (go_at_call 56; refine (refAt_calls _ g next _ c l z.2.1 HRR.out (by have := HB.out; unfold bound; omega)).mono ?_; rintro e_ w2 ⟨r, hra, rfl, rfl⟩; have HRA := Aside0.mk hra; clear hra)
              clear z1 p1 p2 p3 p4 x2
              by_cases hr0 : r < 0
              · have r1 : decide (0 ≤ r) = false := decide_eq_false (by omega)
                have HOLD : Aside0 (ReI l bl0 i (k + 1) bl2 av2) := ⟨re_old HA.out HRK.out HX.out HZ.out HRA.out (.inl hr0)⟩
                clear hr0
                go_wp2
                clear q4
                go_roundg (gk - 1)
                case measure => have := HK.out; have := HKT.out; omega
                case rel => exact ⟨k + 1, kv + 1, av2, bl2, rfl, by first | rfl | rw [w2_], ⟨by have := HKV.out; omega⟩, ⟨by have := HKT.out; omega, by have := HK.out; omega⟩, HBL2, HBW2, HOLD⟩
              obtain ⟨n, y, hn, hy, hrn, hnl⟩ : ∃ (n : Nat) (y : Int × GO), l[n]? = some y ∧ y.1 = z.2.1 ∧ r = (n : Int) ∧ n < l.length := by
                rcases HRA.out with ⟨n, y, h1, h2, h3⟩ | ⟨h1, -⟩
                · exact ⟨n, y, h1, h2, h3, (List.getElem?_eq_some_iff.1 h1).1⟩
                · omega
              obtain ⟨bn, hbn⟩ : ∃ bn, bl2[n]? = some bn := ⟨_, List.getElem?_eq_getElem (by have := HLEN.out; omega)⟩
              have e1 := HBL2.out.cell hbn
              have r1 : decide (0 ≤ r) = true := decide_eq_true (by omega)
              have r2 : (0 : Int) ≤ r := by omega
              have r3 : (r < (l.length : Int)) = True := eq_true (by omega)
              have r4 : r.toNat = n := by omega
              have HN := Aside0.mk (And.intro hn hy)
              have HRN := Aside0.mk hrn
              cases bn
              · have f1 : w2.frozen? ⟨wb, n, none⟩ = false := blk_frozen HBL2.out n
                have HNEW : Aside0 (ReI l bl0 i (k + 1) (bl2.set n true) true) := ⟨re_new HP.out HRK.out HX.out HBI.out HZ.out hn hy hbn⟩
                clear hn hy hrn hnl hbn hr0
                go_wp2
                clear q4 r4
                go_roundg (gk - 1)
                case measure => have := HK.out; have := HKT.out; omega
                case rel => exact ⟨k + 1, kv + 1, true, bl2.set n true, rfl, by first | rfl | rw [w2_], ⟨by have := HKV.out; omega⟩, ⟨by have := HKT.out; omega, by have := HK.out; omega⟩, ⟨HBL2.out.set n true⟩, ⟨HBW2.out.setCell (by have := HWB.out; show w.heap.size ≤ wb; omega) _⟩, HNEW⟩
              · have HOLD : Aside0 (ReI l bl0 i (k + 1) bl2 av2) := ⟨re_old HA.out HRK.out HX.out HZ.out HRA.out (.inr ⟨n, hrn, hbn⟩)⟩
                clear hn hy hrn hnl hbn hr0
                go_wp2
                clear q4 r4
                go_roundg (gk - 1)
                case measure => have := HK.out; have := HKT.out; omega
                case rel => exact ⟨k + 1, kv + 1, av2, bl2, rfl, by first | rfl | rw [w2_], ⟨by have := HKV.out; omega⟩, ⟨by have := HKT.out; omega, by have := HK.out; omega⟩, HBL2, HBW2, HOLD⟩
          · have p1 : decide (kv < (x.2.links.length : Int)) = false := decide_eq_false (by have := HKV.out; omega)
            have HKT := Aside0.mk hkt
            clear hkt
            go_wp2
            clear q4
            go_roundg (gk1 - 1)
            case measure => have := HI.out; have := HLT.out; have := HGK1.out; omega
            case rel => exact ⟨i + 1, iv + 1, av2, bl2, rfl, by first | rfl | rw [w1_], ⟨by have := HIV.out; omega⟩, ⟨by have := HLT.out; omega, by have := HI.out; have := HGK1.out; omega⟩, HBL2, HBW2, ⟨re_next HRK.out HX.out (.inl (by have := HKT.out; omega))⟩⟩
      · have q1 : decide (iv < (l.length : Int)) = false := decide_eq_false (by have := HIV.out; omega)
        have q2 : (iv < (l.length : Int)) = False := eq_false (by have := HIV.out; omega)
        have HLT := Aside0.mk hlt
        clear hlt
        go_wp2
        go_roundg (gk0 - 1)
        case measure => have := HF.out; have := HGK.out; omega
        case rel => exact ⟨av1, bl1, rfl, HBL1, HBW1, ⟨re_again HRI.out (by have := HLT.out; omega) (by have := HF.out; have := HGK.out; omega)⟩⟩
end
end Go.Proofs.YthifdofdoeaemaaGreatDoor.Wk
end
