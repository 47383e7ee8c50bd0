-- Texts that the row GraphLoads leans on, joined by wip/tools/mkclaim.py: GMayG, GPLoadG, GLoad
import Derived.Test.YthifdofdoeaemaaGreatDoorCGraphLoads2
import Derived.Test.YthifdofdoeaemaaGreatDoorProg
import Derived.Below
import Derived.Deep.Draws
import Derived.Deep.AppendLies
import Derived.Maps.AppendAt
import Derived.OwnWalk
import Derived.Laws.BytesArg
import Derived.Laws.MakeOwn
import Derived.Laws.OwnMore
import Derived.Deep.OwnRows
import Derived.Tactics
import Derived.Lib.ConvBytes
import Derived.Laws.Slices
import Derived.WalkKit
import Derived.KernelRfl
import Derived.RowKit3
import Derived.Deep.LoopGhost
import Derived.Deep.QuietTactic
import Derived.BigQuiet
import Derived.WideLaws
import Derived.Deep.DeepCutAuto
import Derived.Deep.CutBlock
import Derived.Deep.RegionHeld3
import Derived.Laws.Rows
import Derived.Lib.AppendStr
import Derived.ArgAppend
import Derived.Laws.IdiomCopy
import Derived.OrdersHeld
import Derived.Laws.BitsLemmas
import Derived.RowKit
import Derived.WalkSpells
import Derived.Sort.LoopGhostIn
import Derived.Sort.CutIn
import Derived.Shelf.Abstract
import Derived.Shelf.RegionOpen
import Derived.OwnWalkIn
import Derived.TacticsInMore
import Derived.LoopNIn
import Derived.LoopIn
import Derived.Laws.Cover1
section
namespace Go.Proofs.YthifdofdoeaemaaGreatDoor.Wk
open Go.RowKit Go.Proofs.YthifdofdoeaemaaGreatDoorW.PrintWords Go.Proofs.YthifdofdoeaemaaGreatDoorW.PrintLast Go.Proofs.YthifdofdoeaemaaGreatDoorW.PrintMore
attribute [local go_sem] max2_int min2_int max_two min_two max_three min_three max_four min_four
set_option linter.unusedVariables false
set_option linter.unusedSimpArgs false
section
open Go.RowKit Go.Lib Go.Maps Go.Proofs.YthifdofdoeaemaaGreatDoorQ
attribute [local go_sem] Oper.semAt_some
def MayP (kind : Int) (l : List Lk) : Prop := (kind = 1 ∨ kind = 2 ∧ l = []) ∧ (∀ k ∈ l, LkMay k) ∧ Names l
def MayAns (kind : Int) (l : List Lk) (w : World) (e : Ending) (w' : World) : Prop := ∃ b : Bool, e = .returned (.bool b) ∧ (b = true ↔ MayP kind l) ∧ Below w.heap.size w w'
theorem may_no {kind : Int} {l : List Lk} {w w' : World} (h : ¬ MayP kind l) (hb : Below w.heap.size w w') : MayAns kind l w (.returned (.bool false)) w' := ⟨false, rfl, ⟨fun h => (by cases h), fun h' => absurd h' h⟩, hb⟩
theorem may_yes {kind : Int} {l : List Lk} {w w' : World} (h : MayP kind l) (hb : Below w.heap.size w w') : MayAns kind l w (.returned (.bool true)) w' := ⟨true, rfl, ⟨fun _ => h, fun _ => rfl⟩, hb⟩
theorem names_snoc {l : List Lk} (h : Names l) {k : Lk} (hk : ∀ m z, l[m]? = some z → m + 1 = l.length → bytesBefore z.1.data.toList k.1.data.toList = true) : Names (l ++ [k]) := by
  refine List.pairwise_append.2 ⟨h, List.pairwise_singleton _ _, fun a ha b hb => ?_⟩
  obtain rfl := List.mem_singleton.1 hb
  obtain ⟨m, hm⟩ := List.mem_iff_getElem?.1 ha
  have hml := (List.getElem?_eq_some_iff.1 hm).1
  by_cases e : m + 1 = l.length
  · exact hk m a hm e
  · obtain ⟨z, hz⟩ : ∃ z, l[l.length - 1]? = some z := ⟨_, List.getElem?_eq_getElem (by omega)⟩
    exact before_trans (names_at h hm hz (by omega)) (hk _ z hz (by omega))
set_option maxHeartbeats 16000000 in
set_option maxRecDepth 100000 in
theorem may_gen (w : World) (hlay : Lay w) (id kind : Int) (A : Option Addr) (c : Nat) (l : List Lk) (hr : LinksR w A l) (hb : l.length ≤ bound) :
    Calls Tryz.prog 51 #[.agg #[.int .i64 id, .int .i64 kind, .slice A l.length c]] w fun e w' => MayAns kind l w e w' := by
  have HR := Aside0.mk hr
  have HB := Aside0.mk hb
  have HLAY := Aside0.mk hlay
  clear hr hlay
  obtain ⟨W2, hW2⟩ : ∃ W2, W2 = w.alloc (.cells #[.int .i64 id, .int .i64 kind, .slice A l.length c] 50 (0, 0)) := ⟨_, rfl⟩
  have hb2 : Below w.heap.size w W2 := by rw [hW2]; exact below_alloc (Below.refl _ _) _
  have hc1 : W2.cell? ⟨w.heap.size, 1, none⟩ = some (.int .i64 kind) := by rw [hW2]; exact (blk_cell (World.alloc_heap_new _ _) 1).trans rfl
  have hc2 : W2.cell? ⟨w.heap.size, 2, none⟩ = some (.slice A l.length c) := by rw [hW2]; exact (blk_cell (World.alloc_heap_new _ _) 2).trans rfl
  have HB2 := Aside0.mk hb2
  have HW2 := Aside0.mk hW2
  have HR2 := Aside0.mk (HR.out.below hb2)
  clear hb2 hW2
  by_cases hkk : kind = 1 ∨ kind = 2 ∧ l = []
  rotate_left
  · have HKK := Aside0.mk hkk
    by_cases h2 : kind = 2
    · subst h2
      have HNE : Aside0 (¬ l = []) := ⟨fun e => hkk (.inr ⟨rfl, e⟩)⟩
      have hln : 0 < l.length := List.length_pos_iff.2 (fun e => hkk (.inr ⟨rfl, e⟩))
      have n1 : decide ((0 : Int) < (l.length : Int)) = true := decide_eq_true (by omega)
      clear hkk
      go_enter Tryz.func51, Tryz.ntmps51
      go_upto_region 1 with (fail)
      rw [← HW2.out]
      go_wp2
      go_ret
      exact may_no (fun h => HNE.out (h.1.elim (fun e => by cases e) (fun e => e.2))) HB2.out
    · have n1 : (kind != 1) = true := by simpa using (fun e => hkk (.inl e) : ¬ kind = 1)
      have n2 : (kind != 2) = true := by simpa using h2
      clear hkk h2
      go_enter Tryz.func51, Tryz.ntmps51
      go_upto_region 1 with (fail)
      rw [← HW2.out]
      go_wp2
      go_ret
      exact may_no (fun h => absurd h.1 HKK.out) HB2.out
  have HKK := Aside0.mk hkk
  rcases hkk with rfl | ⟨rfl, rfl⟩
  rotate_left
  · have hw2' := HW2.out
    simp only [List.length_nil] at hw2'
    have HW2' := Aside0.mk hw2'
    clear hw2'
    go_enter Tryz.func51, Tryz.ntmps51
    go_upto_region 1 with (fail)
    rw [← HW2'.out]
    go_wp2
    go_loopg [27] 0 (fun kq v27 W => v27 = .int .i64 0 ∧ W = W2)
    case atStart => exact ⟨rfl, rfl⟩
    case round =>
      obtain ⟨rfl, h0⟩ := hrel
      obtain rfl := h0.symm
      go_wp2
      go_ret
      exact may_yes ⟨.inr ⟨rfl, rfl⟩, by simp, List.Pairwise.nil⟩ HB2.out
  go_enter Tryz.func51, Tryz.ntmps51
  go_upto_region 1 with (fail)
  rw [← HW2.out]
  go_wp2
  obtain ⟨wb, hwb⟩ : ∃ wb, wb = w.heap.size := ⟨_, rfl⟩
  rw [← hwb] at hc1 hc2 ⊢
  have HWBE := Aside0.mk hwb
  clear hwb
  go_loopg [27] l.length (fun kq v27 W => ∃ (j : Nat) (jv : Int), v27 = .int .i64 jv ∧ Aside0 (jv = (j : Int)) ∧ Aside0 (j ≤ l.length ∧ l.length - j ≤ kq) ∧ Aside0 (Below W2.heap.size W2 W) ∧ Aside0 (∀ k ∈ l.take j, LkMay k) ∧ Aside0 (Names (l.take j)))
  case atStart => exact ⟨0, 0, rfl, ⟨rfl⟩, ⟨by omega, by omega⟩, ⟨Below.refl _ _⟩, ⟨by simp⟩, ⟨List.Pairwise.nil⟩⟩
  case round =>
    obtain ⟨j, jv, rfl, HJV, HJ, HBW, HLM, HNM⟩ := hrel
    by_cases hlt : j < l.length
    · obtain ⟨k, hk⟩ : ∃ k, l[j]? = some k := ⟨_, List.getElem?_eq_getElem hlt⟩
      have HKM := Aside0.mk (List.mem_of_getElem? hk)
      have HKE := Aside0.mk hk
      have HRW := Aside0.mk (HR2.out.below HBW.out)
      obtain ⟨g5, o5, hA5, hg5, k0, k1, k2⟩ := HRW.out.at hk
      subst hA5
      have HTK : Aside0 (l.take (j + 1) = l.take j ++ [k]) := ⟨by obtain ⟨h1, e1⟩ := List.getElem?_eq_some_iff.1 hk; rw [List.take_succ_eq_append_getElem h1, e1]⟩
      have q1 : decide (jv < (l.length : Int)) = true := decide_eq_true (by have := HJV.out; omega)
      have q2 : (jv < (l.length : Int)) = True := eq_true (by have := HJV.out; omega)
      have q3 : (0 : Int) ≤ jv := by have := HJV.out; omega
      have q4 : jv.toNat = j := by have := HJV.out; omega
      obtain ⟨W5, hW5⟩ : ∃ W5, W5 = wr.alloc (.cells #[.string k.1, .int .i64 k.2.1, .string k.2.2] 42 (0, 0)) := ⟨_, rfl⟩
      have hb5 : Below wr.heap.size wr W5 := by rw [hW5]; exact below_alloc (Below.refl _ _) _
      have hx : W5.heap[wr.heap.size]? = some (.cells #[.string k.1, .int .i64 k.2.1, .string k.2.2] 42 (0, 0)) := by rw [hW5]; exact World.alloc_heap_new _ _
      obtain ⟨xb, hxb⟩ : ∃ xb, xb = wr.heap.size := ⟨_, rfl⟩
      have HW5 := Aside0.mk hW5
      have HB5 := Aside0.mk hb5
      have HLT := Aside0.mk hlt
      have HG5 := Aside0.mk hg5
      obtain ⟨pl, pa, py, hpp⟩ : ∃ a b c, parseP k.2.2 = (a, b, c) := ⟨_, _, _, rfl⟩
      have HPP := Aside0.mk hpp
      go_upto_region 6 with (fail)
      rw [← HW5.out, ← hxb]
      rw [← hxb] at hx
      have HX := Aside0.mk hx
      have z2 : W5.cell? ⟨xb, 2, none⟩ = some (.string k.2.2) := (blk_cell hx 2).trans rfl
      have HXB := Aside0.mk hxb
      clear hW5 hb5 hg5 hpp k0 k1 k2 hx hxb hk
      go_upto_region 7 with (go_at_call 40; refine (parse2_calls k.2.2 _ (lay_below HLAY.out (HB2.out.trans ((HBW.out.trans (HB5.out.mono HBW.out.size)).mono HB2.out.size))) pl pa py HPP.out).mono ?_; rintro e_ w6 ⟨v6, rfl, -, -, hb6⟩; have HB6 := Aside0.mk hb6; clear hb6)
      have hx6 : w6.heap[xb]? = some (.cells #[.string k.1, .int .i64 k.2.1, .string k.2.2] 42 (0, 0)) := (HB6.out.block _ (blk_lt HX.out)).trans HX.out
      have y0 : w6.cell? ⟨xb, 0, none⟩ = some (.string k.1) := (blk_cell hx6 0).trans rfl
      have y1 : w6.cell? ⟨xb, 1, none⟩ = some (.int .i64 k.2.1) := (blk_cell hx6 1).trans rfl
      have y2 : w6.cell? ⟨xb, 2, none⟩ = some (.string k.2.2) := (blk_cell hx6 2).trans rfl
      have hbw6 : Below W2.heap.size W2 w6 := HBW.out.trans ((HB5.out.trans (HB6.out.mono HB5.out.size)).mono HBW.out.size)
      have HBW6 := Aside0.mk hbw6
      have p2 : w6.cell? ⟨wb, 2, none⟩ = some (.slice (some ⟨g5, o5, none⟩) l.length c) := (hbw6.cell (World.block_lt_of_cell? _ _ hc2)).trans hc2
      have HR6 := Aside0.mk (HRW.out.below (HB5.out.trans (HB6.out.mono HB5.out.size)))
      have w1_ : wrap64 (jv + 1) = jv + 1 := wrap_ok9 _ (by omega) (by have := HJV.out; have := HB.out; unfold bound at this; omega)
      have w2_ : wrap64 (jv - 1) = jv - 1 := wrap_ok9 _ (by omega) (by have := HJV.out; have := HB.out; unfold bound at this; omega)
      clear hx6 hbw6 z2 hlt q1 q2
      by_cases h0 : k.2.1 = 0
      · rw [h0] at y1
        by_cases hpy : py = 0
        · have HLINK : Aside0 ((k.2.1 = 0 ∧ (parseP k.2.2).2.2 = 0) ∨ (2 ≤ k.2.1 ∧ k.2.2 = ⟨#[]⟩)) := ⟨.inl ⟨h0, by rw [HPP.out]; exact hpy⟩⟩
          subst hpy
          clear h0
          go_upto_region 9 with (fail)
          clear y1
          by_cases hname : goodName k.1 = true
          rotate_left
          · have HNAME : Aside0 (goodName k.1 = false) := ⟨by simpa using hname⟩
            have HBADN := Aside0.mk hname
            clear hname
            have hS : w6.drew.cell? ⟨xb, 0, none⟩ = some (.string k.1) ∧ Below w6.heap.size w6 w6.drew := ⟨y0, below_drew (Below.refl _ _)⟩
            refine start_ (n := 28) (S := fun W' => W'.cell? ⟨xb, 0, none⟩ = some (.string k.1) ∧ Below w6.heap.size w6 W') (ds := []) #[false, false, false, false, false, false, false, false, false, false, false, false, false, false, false, false, false, false, false, false, false, false, false, false, false, false, false, false] (by kernel_rfl) rfl rfl hS (fun hHeld => ?_)
            refine pure_ (i := 0) (N := some 54) (v := ?_) (a' := ?_) (bb 28 1) rfl rfl (by kernel_rfl) (fun _ _ _ h => h) (Or.inl ⟨by rfl, ?_⟩) ?_ ?_
            rotate_left
            · intro w'
              go_simp
              with_reducible rfl
            rotate_left
            · simp only [Act.put, sa, sz, ss, i64_w, i32_w]
              rfl
            refine take_ (i := 1) (N := some 55) (v := ?_) (a' := ?_) (bb 28 3) rfl rfl (by kernel_rfl) (fun _ _ _ h => h) (Or.inl ⟨by rfl, ?_⟩) hHeld ?_ ?_
            rotate_left
            · rintro w' ⟨s1_, s2_⟩
              go_simp
              with_reducible rfl
            rotate_left
            · simp only [Act.put, sa, sz, ss, i64_w, i32_w]
              rfl
            refine one_ (i := 2) (N := some 56) (bb 28 7) rfl rfl (by kernel_rfl) (by decide) (fun K hK => ?_)
            skip
            refine goes_ Tryz.func81 (by kernel_rfl) rfl #[.string k.1] (by rfl) rfl rfl (by (simp only [List.map_toArray, List.map_cons, List.map_nil]); rfl) ?_
            refine (name_calls k.1 _).mono ?_
            rintro e_ w7 ⟨rfl, hb7⟩
            rw [HNAME.out]
            refine ⟨_, rfl, ?_⟩
            refine hK.out _ _ ⟨(hb7.cell (World.block_lt_of_cell? _ _ hHeld.1)).trans hHeld.1, hHeld.2.trans (hb7.mono hHeld.2.size)⟩ (fun hHeld => ?_)
            clear hK K
            refine norm_ (a' := ?_) ?_ ?_
            rotate_left
            · show Act.put _ (some 56) _ = _
              simp only [Act.put, sa, sz, ss, i64_w, i32_w]
              rfl
            clear hb7
            refine pure_ (i := 3) (N := some 57) (v := ?_) (a' := ?_) (bb 28 15) rfl rfl (by kernel_rfl) (fun _ _ _ h => h) (Or.inl ⟨by rfl, ?_⟩) ?_ ?_
            rotate_left
            · intro w'
              go_simp
              with_reducible rfl
            rotate_left
            · simp only [Act.put, sa, sz, ss, i64_w, i32_w]
              rfl
            refine pure_ (i := 4) (N := some 58) (v := ?_) (a' := ?_) (bb 28 31) rfl rfl (by kernel_rfl) (fun _ _ _ h => h) (Or.inl ⟨by rfl, ?_⟩) ?_ ?_
            rotate_left
            · intro w'
              go_simp
              with_reducible rfl
            rotate_left
            · simp only [Act.put, sa, sz, ss, i64_w, i32_w]
              rfl
            refine pure_ (i := 5) (N := some 59) (v := undef) (a' := ?_) (bb 28 63) rfl rfl (by kernel_rfl) (fun _ _ _ h => h) (Or.inr ⟨by rfl, rfl⟩) ?_ ?_
            rotate_left
            · simp only [Act.put, sa, sz, ss, i64_w, i32_w]
              rfl
            refine pure_ (i := 6) (N := some 60) (v := undef) (a' := ?_) (bb 28 127) rfl rfl (by kernel_rfl) (fun _ _ _ h => h) (Or.inr ⟨by rfl, rfl⟩) ?_ ?_
            rotate_left
            · simp only [Act.put, sa, sz, ss, i64_w, i32_w]
              rfl
            refine pure_ (i := 7) (N := some 61) (v := undef) (a' := ?_) (bb 28 255) rfl rfl (by kernel_rfl) (fun _ _ _ h => h) (Or.inr ⟨by rfl, rfl⟩) ?_ ?_
            rotate_left
            · simp only [Act.put, sa, sz, ss, i64_w, i32_w]
              rfl
            refine pure_ (i := 8) (N := some 62) (v := undef) (a' := ?_) (bb 28 511) rfl rfl (by kernel_rfl) (fun _ _ _ h => h) (Or.inr ⟨by rfl, rfl⟩) ?_ ?_
            rotate_left
            · simp only [Act.put, sa, sz, ss, i64_w, i32_w]
              rfl
            refine pure_ (i := 9) (N := some 63) (v := undef) (a' := ?_) (bb 28 1023) rfl rfl (by kernel_rfl) (fun _ _ _ h => h) (Or.inr ⟨by rfl, rfl⟩) ?_ ?_
            rotate_left
            · simp only [Act.put, sa, sz, ss, i64_w, i32_w]
              rfl
            refine pure_ (i := 10) (N := some 64) (v := undef) (a' := ?_) (bb 28 2047) rfl rfl (by kernel_rfl) (fun _ _ _ h => h) (Or.inr ⟨by rfl, rfl⟩) ?_ ?_
            rotate_left
            · simp only [Act.put, sa, sz, ss, i64_w, i32_w]
              rfl
            refine pure_ (i := 11) (N := some 65) (v := undef) (a' := ?_) (bb 28 4095) rfl rfl (by kernel_rfl) (fun _ _ _ h => h) (Or.inr ⟨by rfl, rfl⟩) ?_ ?_
            rotate_left
            · simp only [Act.put, sa, sz, ss, i64_w, i32_w]
              rfl
            refine pure_ (i := 12) (N := some 66) (v := undef) (a' := ?_) (bb 28 8191) rfl rfl (by kernel_rfl) (fun _ _ _ h => h) (Or.inr ⟨by rfl, rfl⟩) ?_ ?_
            rotate_left
            · simp only [Act.put, sa, sz, ss, i64_w, i32_w]
              rfl
            refine pure_ (i := 13) (N := some 67) (v := undef) (a' := ?_) (bb 28 16383) rfl rfl (by kernel_rfl) (fun _ _ _ h => h) (Or.inr ⟨by rfl, rfl⟩) ?_ ?_
            rotate_left
            · simp only [Act.put, sa, sz, ss, i64_w, i32_w]
              rfl
            refine pure_ (i := 14) (N := some 68) (v := undef) (a' := ?_) (bb 28 32767) rfl rfl (by kernel_rfl) (fun _ _ _ h => h) (Or.inr ⟨by rfl, rfl⟩) ?_ ?_
            rotate_left
            · simp only [Act.put, sa, sz, ss, i64_w, i32_w]
              rfl
            refine pure_ (i := 15) (N := some 69) (v := undef) (a' := ?_) (bb 28 65535) rfl rfl (by kernel_rfl) (fun _ _ _ h => h) (Or.inr ⟨by rfl, rfl⟩) ?_ ?_
            rotate_left
            · simp only [Act.put, sa, sz, ss, i64_w, i32_w]
              rfl
            refine pure_ (i := 16) (N := some 70) (v := undef) (a' := ?_) (bb 28 131071) rfl rfl (by kernel_rfl) (fun _ _ _ h => h) (Or.inr ⟨by rfl, rfl⟩) ?_ ?_
            rotate_left
            · simp only [Act.put, sa, sz, ss, i64_w, i32_w]
              rfl
            refine pure_ (i := 17) (N := some 71) (v := undef) (a' := ?_) (bb 28 262143) rfl rfl (by kernel_rfl) (fun _ _ _ h => h) (Or.inr ⟨by rfl, rfl⟩) ?_ ?_
            rotate_left
            · simp only [Act.put, sa, sz, ss, i64_w, i32_w]
              rfl
            refine pure_ (i := 18) (N := some 72) (v := undef) (a' := ?_) (bb 28 524287) rfl rfl (by kernel_rfl) (fun _ _ _ h => h) (Or.inr ⟨by rfl, rfl⟩) ?_ ?_
            rotate_left
            · simp only [Act.put, sa, sz, ss, i64_w, i32_w]
              rfl
            refine pure_ (i := 19) (N := some 73) (v := ?_) (a' := ?_) (bb 28 1048575) rfl rfl (by kernel_rfl) (fun _ _ _ h => h) (Or.inl ⟨by rfl, ?_⟩) ?_ ?_
            rotate_left
            · intro w'
              go_simp
              with_reducible rfl
            rotate_left
            · simp only [Act.put, sa, sz, ss, i64_w, i32_w]
              rfl
            refine pure_ (i := 20) (N := some 74) (v := ?_) (a' := ?_) (bb 28 2097151) rfl rfl (by kernel_rfl) (fun _ _ _ h => h) (Or.inl ⟨by rfl, ?_⟩) ?_ ?_
            rotate_left
            · intro w'
              go_simp
              with_reducible rfl
            rotate_left
            · simp only [Act.put, sa, sz, ss, i64_w, i32_w]
              rfl
            refine pure_ (i := 21) (N := some 75) (v := undef) (a' := ?_) (bb 28 4194303) rfl rfl (by kernel_rfl) (fun _ _ _ h => h) (Or.inr ⟨by rfl, rfl⟩) ?_ ?_
            rotate_left
            · simp only [Act.put, sa, sz, ss, i64_w, i32_w]
              rfl
            refine pure_ (i := 22) (N := some 76) (v := undef) (a' := ?_) (bb 28 8388607) rfl rfl (by kernel_rfl) (fun _ _ _ h => h) (Or.inr ⟨by rfl, rfl⟩) ?_ ?_
            rotate_left
            · simp only [Act.put, sa, sz, ss, i64_w, i32_w]
              rfl
            refine pure_ (i := 23) (N := some 77) (v := undef) (a' := ?_) (bb 28 16777215) rfl rfl (by kernel_rfl) (fun _ _ _ h => h) (Or.inr ⟨by rfl, rfl⟩) ?_ ?_
            rotate_left
            · simp only [Act.put, sa, sz, ss, i64_w, i32_w]
              rfl
            refine pure_ (i := 24) (N := some 78) (v := undef) (a' := ?_) (bb 28 33554431) rfl rfl (by kernel_rfl) (fun _ _ _ h => h) (Or.inr ⟨by rfl, rfl⟩) ?_ ?_
            rotate_left
            · simp only [Act.put, sa, sz, ss, i64_w, i32_w]
              rfl
            refine pure_ (i := 25) (N := some 79) (v := undef) (a' := ?_) (bb 28 67108863) rfl rfl (by kernel_rfl) (fun _ _ _ h => h) (Or.inr ⟨by rfl, rfl⟩) ?_ ?_
            rotate_left
            · simp only [Act.put, sa, sz, ss, i64_w, i32_w]
              rfl
            refine pure_ (i := 26) (N := some 80) (v := undef) (a' := ?_) (bb 28 134217727) rfl rfl (by kernel_rfl) (fun _ _ _ h => h) (Or.inr ⟨by rfl, rfl⟩) ?_ ?_
            rotate_left
            · simp only [Act.put, sa, sz, ss, i64_w, i32_w]
              rfl
            refine pure_ (i := 27) (N := some 81) (v := ?_) (a' := ?_) (bb 28 268435455) rfl rfl (by kernel_rfl) (fun _ _ _ h => h) (Or.inl ⟨by rfl, ?_⟩) ?_ ?_
            rotate_left
            · intro w'
              go_simp
              with_reducible rfl
            rotate_left
            · simp only [Act.put, sa, sz, ss, i64_w, i32_w]
              rfl
            refine done_ (by kernel_rfl) ?_
            have HBE := Aside0.mk hHeld.2
            clear hHeld hS
            go_wp2
            go_ret
            exact may_no (fun h => absurd (h.2.1 k HKM.out).1 HBADN.out) (HB2.out.trans ((HBW6.out.trans (HBE.out.mono HBW6.out.size)).mono HB2.out.size))
          have HNAME := Aside0.mk hname
          clear hname
          by_cases hj0 : j = 0
          · have t1 : decide (0 < jv) = false := decide_eq_false (by have := HJV.out; omega)
            have hS : w6.drew.cell? ⟨xb, 0, none⟩ = some (.string k.1) ∧ Below w6.heap.size w6 w6.drew := ⟨y0, below_drew (Below.refl _ _)⟩
            refine start_ (n := 28) (S := fun W' => W'.cell? ⟨xb, 0, none⟩ = some (.string k.1) ∧ Below w6.heap.size w6 W') (ds := []) #[false, false, false, false, false, false, false, false, false, false, false, false, false, false, false, false, false, false, false, false, false, false, false, false, false, false, false, false] (by kernel_rfl) rfl rfl hS (fun hHeld => ?_)
            refine pure_ (i := 0) (N := some 54) (v := ?_) (a' := ?_) (bb 28 1) rfl rfl (by kernel_rfl) (fun _ _ _ h => h) (Or.inl ⟨by rfl, ?_⟩) ?_ ?_
            rotate_left
            · intro w'
              go_simp
              with_reducible rfl
            rotate_left
            · simp only [Act.put, sa, sz, ss, i64_w, i32_w]
              rfl
            refine take_ (i := 1) (N := some 55) (v := ?_) (a' := ?_) (bb 28 3) rfl rfl (by kernel_rfl) (fun _ _ _ h => h) (Or.inl ⟨by rfl, ?_⟩) hHeld ?_ ?_
            rotate_left
            · rintro w' ⟨s1_, s2_⟩
              go_simp
              with_reducible rfl
            rotate_left
            · simp only [Act.put, sa, sz, ss, i64_w, i32_w]
              rfl
            refine one_ (i := 2) (N := some 56) (bb 28 7) rfl rfl (by kernel_rfl) (by decide) (fun K hK => ?_)
            skip
            refine goes_ Tryz.func81 (by kernel_rfl) rfl #[.string k.1] (by rfl) rfl rfl (by (simp only [List.map_toArray, List.map_cons, List.map_nil]); rfl) ?_
            refine (name_calls k.1 _).mono ?_
            rintro e_ w7 ⟨rfl, hb7⟩
            rw [HNAME.out]
            refine ⟨_, rfl, ?_⟩
            refine hK.out _ _ ⟨(hb7.cell (World.block_lt_of_cell? _ _ hHeld.1)).trans hHeld.1, hHeld.2.trans (hb7.mono hHeld.2.size)⟩ (fun hHeld => ?_)
            clear hK K
            refine norm_ (a' := ?_) ?_ ?_
            rotate_left
            · show Act.put _ (some 56) _ = _
              simp only [Act.put, sa, sz, ss, i64_w, i32_w]
              rfl
            clear hb7
            refine pure_ (i := 3) (N := some 57) (v := ?_) (a' := ?_) (bb 28 15) rfl rfl (by kernel_rfl) (fun _ _ _ h => h) (Or.inl ⟨by rfl, ?_⟩) ?_ ?_
            rotate_left
            · intro w'
              go_simp
              with_reducible rfl
            rotate_left
            · simp only [Act.put, sa, sz, ss, i64_w, i32_w]
              rfl
            refine pure_ (i := 4) (N := some 58) (v := ?_) (a' := ?_) (bb 28 31) rfl rfl (by kernel_rfl) (fun _ _ _ h => h) (Or.inl ⟨by rfl, ?_⟩) ?_ ?_
            rotate_left
            · intro w'
              go_simp
              with_reducible rfl
            rotate_left
            · simp only [Act.put, sa, sz, ss, i64_w, i32_w]
              rfl
            refine pure_ (i := 5) (N := some 59) (v := ?_) (a' := ?_) (bb 28 63) rfl rfl (by kernel_rfl) (fun _ _ _ h => h) (Or.inl ⟨by rfl, ?_⟩) ?_ ?_
            rotate_left
            · intro w'
              go_simp
              with_reducible rfl
            rotate_left
            · simp only [Act.put, sa, sz, ss, i64_w, i32_w]
              rfl
            refine pure_ (i := 6) (N := some 60) (v := ?_) (a' := ?_) (bb 28 127) rfl rfl (by kernel_rfl) (fun _ _ _ h => h) (Or.inl ⟨by rfl, ?_⟩) ?_ ?_
            rotate_left
            · intro w'
              go_simp
              with_reducible rfl
            rotate_left
            · simp only [Act.put, sa, sz, ss, i64_w, i32_w]
              rfl
            refine pure_ (i := 7) (N := some 61) (v := ?_) (a' := ?_) (bb 28 255) rfl rfl (by kernel_rfl) (fun _ _ _ h => h) (Or.inl ⟨by rfl, ?_⟩) ?_ ?_
            rotate_left
            · intro w'
              go_simp
              with_reducible rfl
            rotate_left
            · simp only [Act.put, sa, sz, ss, i64_w, i32_w]
              rfl
            refine pure_ (i := 8) (N := some 62) (v := undef) (a' := ?_) (bb 28 511) rfl rfl (by kernel_rfl) (fun _ _ _ h => h) (Or.inr ⟨by rfl, rfl⟩) ?_ ?_
            rotate_left
            · simp only [Act.put, sa, sz, ss, i64_w, i32_w]
              rfl
            refine pure_ (i := 9) (N := some 63) (v := undef) (a' := ?_) (bb 28 1023) rfl rfl (by kernel_rfl) (fun _ _ _ h => h) (Or.inr ⟨by rfl, rfl⟩) ?_ ?_
            rotate_left
            · simp only [Act.put, sa, sz, ss, i64_w, i32_w]
              rfl
            refine pure_ (i := 10) (N := some 64) (v := undef) (a' := ?_) (bb 28 2047) rfl rfl (by kernel_rfl) (fun _ _ _ h => h) (Or.inr ⟨by rfl, rfl⟩) ?_ ?_
            rotate_left
            · simp only [Act.put, sa, sz, ss, i64_w, i32_w]
              rfl
            refine pure_ (i := 11) (N := some 65) (v := undef) (a' := ?_) (bb 28 4095) rfl rfl (by kernel_rfl) (fun _ _ _ h => h) (Or.inr ⟨by rfl, rfl⟩) ?_ ?_
            rotate_left
            · simp only [Act.put, sa, sz, ss, i64_w, i32_w]
              rfl
            refine pure_ (i := 12) (N := some 66) (v := undef) (a' := ?_) (bb 28 8191) rfl rfl (by kernel_rfl) (fun _ _ _ h => h) (Or.inr ⟨by rfl, rfl⟩) ?_ ?_
            rotate_left
            · simp only [Act.put, sa, sz, ss, i64_w, i32_w]
              rfl
            refine pure_ (i := 13) (N := some 67) (v := undef) (a' := ?_) (bb 28 16383) rfl rfl (by kernel_rfl) (fun _ _ _ h => h) (Or.inr ⟨by rfl, rfl⟩) ?_ ?_
            rotate_left
            · simp only [Act.put, sa, sz, ss, i64_w, i32_w]
              rfl
            refine pure_ (i := 14) (N := some 68) (v := undef) (a' := ?_) (bb 28 32767) rfl rfl (by kernel_rfl) (fun _ _ _ h => h) (Or.inr ⟨by rfl, rfl⟩) ?_ ?_
            rotate_left
            · simp only [Act.put, sa, sz, ss, i64_w, i32_w]
              rfl
            refine pure_ (i := 15) (N := some 69) (v := undef) (a' := ?_) (bb 28 65535) rfl rfl (by kernel_rfl) (fun _ _ _ h => h) (Or.inr ⟨by rfl, rfl⟩) ?_ ?_
            rotate_left
            · simp only [Act.put, sa, sz, ss, i64_w, i32_w]
              rfl
            refine pure_ (i := 16) (N := some 70) (v := undef) (a' := ?_) (bb 28 131071) rfl rfl (by kernel_rfl) (fun _ _ _ h => h) (Or.inr ⟨by rfl, rfl⟩) ?_ ?_
            rotate_left
            · simp only [Act.put, sa, sz, ss, i64_w, i32_w]
              rfl
            refine pure_ (i := 17) (N := some 71) (v := undef) (a' := ?_) (bb 28 262143) rfl rfl (by kernel_rfl) (fun _ _ _ h => h) (Or.inr ⟨by rfl, rfl⟩) ?_ ?_
            rotate_left
            · simp only [Act.put, sa, sz, ss, i64_w, i32_w]
              rfl
            refine pure_ (i := 18) (N := some 72) (v := ?_) (a' := ?_) (bb 28 524287) rfl rfl (by kernel_rfl) (fun _ _ _ h => h) (Or.inl ⟨by rfl, ?_⟩) ?_ ?_
            rotate_left
            · intro w'
              go_simp
              with_reducible rfl
            rotate_left
            · simp only [Act.put, sa, sz, ss, i64_w, i32_w]
              rfl
            refine pure_ (i := 19) (N := some 73) (v := ?_) (a' := ?_) (bb 28 1048575) rfl rfl (by kernel_rfl) (fun _ _ _ h => h) (Or.inl ⟨by rfl, ?_⟩) ?_ ?_
            rotate_left
            · intro w'
              go_simp
              with_reducible rfl
            rotate_left
            · simp only [Act.put, sa, sz, ss, i64_w, i32_w]
              rfl
            refine pure_ (i := 20) (N := some 74) (v := ?_) (a' := ?_) (bb 28 2097151) rfl rfl (by kernel_rfl) (fun _ _ _ h => h) (Or.inl ⟨by rfl, ?_⟩) ?_ ?_
            rotate_left
            · intro w'
              go_simp
              with_reducible rfl
            rotate_left
            · simp only [Act.put, sa, sz, ss, i64_w, i32_w]
              rfl
            refine pure_ (i := 21) (N := some 75) (v := ?_) (a' := ?_) (bb 28 4194303) rfl rfl (by kernel_rfl) (fun _ _ _ h => h) (Or.inl ⟨by rfl, ?_⟩) ?_ ?_
            rotate_left
            · intro w'
              go_simp
              with_reducible rfl
            rotate_left
            · simp only [Act.put, sa, sz, ss, i64_w, i32_w]
              rfl
            refine pure_ (i := 22) (N := some 76) (v := ?_) (a' := ?_) (bb 28 8388607) rfl rfl (by kernel_rfl) (fun _ _ _ h => h) (Or.inl ⟨by rfl, ?_⟩) ?_ ?_
            rotate_left
            · intro w'
              go_simp
              with_reducible rfl
            rotate_left
            · simp only [Act.put, sa, sz, ss, i64_w, i32_w]
              rfl
            refine pure_ (i := 23) (N := some 77) (v := ?_) (a' := ?_) (bb 28 16777215) rfl rfl (by kernel_rfl) (fun _ _ _ h => h) (Or.inl ⟨by rfl, ?_⟩) ?_ ?_
            rotate_left
            · intro w'
              go_simp
              with_reducible rfl
            rotate_left
            · simp only [Act.put, sa, sz, ss, i64_w, i32_w]
              rfl
            refine pure_ (i := 24) (N := some 78) (v := undef) (a' := ?_) (bb 28 33554431) rfl rfl (by kernel_rfl) (fun _ _ _ h => h) (Or.inr ⟨by rfl, rfl⟩) ?_ ?_
            rotate_left
            · simp only [Act.put, sa, sz, ss, i64_w, i32_w]
              rfl
            refine pure_ (i := 25) (N := some 79) (v := undef) (a' := ?_) (bb 28 67108863) rfl rfl (by kernel_rfl) (fun _ _ _ h => h) (Or.inr ⟨by rfl, rfl⟩) ?_ ?_
            rotate_left
            · simp only [Act.put, sa, sz, ss, i64_w, i32_w]
              rfl
            refine pure_ (i := 26) (N := some 80) (v := ?_) (a' := ?_) (bb 28 134217727) rfl rfl (by kernel_rfl) (fun _ _ _ h => h) (Or.inl ⟨by rfl, ?_⟩) ?_ ?_
            rotate_left
            · intro w'
              go_simp
              with_reducible rfl
            rotate_left
            · simp only [Act.put, sa, sz, ss, i64_w, i32_w]
              rfl
            refine pure_ (i := 27) (N := some 81) (v := ?_) (a' := ?_) (bb 28 268435455) rfl rfl (by kernel_rfl) (fun _ _ _ h => h) (Or.inl ⟨by rfl, ?_⟩) ?_ ?_
            rotate_left
            · intro w'
              go_simp
              with_reducible rfl
            rotate_left
            · simp only [Act.put, sa, sz, ss, i64_w, i32_w]
              rfl
            refine done_ (by kernel_rfl) ?_
            have HBE := Aside0.mk hHeld.2
            clear hHeld hS
            go_wp2
            clear q4
            go_roundg (gk - 1)
            case measure => have := HJ.out; have := HLT.out; omega
            case rel => exact ⟨j + 1, jv + 1, by first | rfl | rw [w1_], ⟨by have := HJV.out; omega⟩, ⟨by have := HLT.out; omega, by have := HJ.out; omega⟩, ⟨HBW6.out.trans (HBE.out.mono HBW6.out.size)⟩, ⟨by rw [HTK.out]; exact fun z hz => (List.mem_append.1 hz).elim (HLM.out z) (fun h => by rw [List.mem_singleton.1 h]; exact ⟨HNAME.out, HLINK.out⟩)⟩, ⟨by rw [HTK.out]; exact names_snoc HNM.out (fun m z hz hm => by have := (List.getElem?_eq_some_iff.1 hz).1; rw [hj0] at this; simp at this)⟩⟩
          obtain ⟨i, hi⟩ : ∃ i, j = i + 1 := ⟨j - 1, by omega⟩
          obtain ⟨k', hk'⟩ : ∃ k', l[i]? = some k' := ⟨_, List.getElem?_eq_getElem (by have := HLT.out; omega)⟩
          obtain ⟨g6, o6, hA6, -, x0, -, -⟩ := HR6.out.at hk'
          obtain ⟨rfl, rfl⟩ : g5 = g6 ∧ o5 = o6 := by simpa using hA6
          have HK' := Aside0.mk hk'
          have t1 : decide (0 < jv) = true := decide_eq_true (by have := HJV.out; omega)
          have v1 : (jv - 1).toNat = i := by have := HJV.out; omega
          have v2 : (0 : Int) ≤ jv - 1 := by have := HJV.out; omega
          have v3 : (1 : Int) ≤ jv := by omega
          have v4 : jv ≤ (l.length : Int) := by have := HJV.out; have := HLT.out; omega
          have v5 : (jv - 1 < (l.length : Int)) = True := eq_true (by omega)
          have v6 : ((0 : Int) ≤ jv - 1) = True := eq_true v2
          have v7 : ((1 : Int) ≤ jv) = True := eq_true v3
          have v8 : (jv ≤ (l.length : Int)) = True := eq_true v4
          have hS : w6.drew.cell? ⟨xb, 0, none⟩ = some (.string k.1) ∧ w6.drew.cell? ⟨wb, 2, none⟩ = some (.slice (some ⟨g5, o5, none⟩) l.length c) ∧ w6.drew.cell? ⟨g5, o5 + i * 3, none⟩ = some (.string k'.1) ∧ Below w6.heap.size w6 w6.drew := ⟨y0, p2, x0, below_drew (Below.refl _ _)⟩
          have HIJ := Aside0.mk hi
          clear hA6 hk' hj0 hi
          by_cases hbef : bytesBefore k'.1.data.toList k.1.data.toList = true
          · have hge : Op.bytesLess k'.1.toList k.1.toList = true := by rw [less_before, ByteArray.toList_eq, ByteArray.toList_eq, hbef]
            have HBEF := Aside0.mk hbef
            clear hbef
            refine start_ (n := 28) (S := fun W' => W'.cell? ⟨xb, 0, none⟩ = some (.string k.1) ∧ W'.cell? ⟨wb, 2, none⟩ = some (.slice (some ⟨g5, o5, none⟩) l.length c) ∧ W'.cell? ⟨g5, o5 + i * 3, none⟩ = some (.string k'.1) ∧ Below w6.heap.size w6 W') (ds := []) #[false, false, false, false, false, false, false, false, false, false, false, false, false, false, false, false, false, false, false, false, false, false, false, false, false, false, false, false] (by kernel_rfl) rfl rfl hS (fun hHeld => ?_)
            refine pure_ (i := 0) (N := some 54) (v := ?_) (a' := ?_) (bb 28 1) rfl rfl (by kernel_rfl) (fun _ _ _ h => h) (Or.inl ⟨by rfl, ?_⟩) ?_ ?_
            rotate_left
            · intro w'
              go_simp
              with_reducible rfl
            rotate_left
            · simp only [Act.put, sa, sz, ss, i64_w, i32_w]
              rfl
            refine take_ (i := 1) (N := some 55) (v := ?_) (a' := ?_) (bb 28 3) rfl rfl (by kernel_rfl) (fun _ _ _ h => h) (Or.inl ⟨by rfl, ?_⟩) hHeld ?_ ?_
            rotate_left
            · rintro w' ⟨s1_, s2_, s3_, s4_⟩
              go_simp
              with_reducible rfl
            rotate_left
            · simp only [Act.put, sa, sz, ss, i64_w, i32_w]
              rfl
            refine one_ (i := 2) (N := some 56) (bb 28 7) rfl rfl (by kernel_rfl) (by decide) (fun K hK => ?_)
            skip
            refine goes_ Tryz.func81 (by kernel_rfl) rfl #[.string k.1] (by rfl) rfl rfl (by (simp only [List.map_toArray, List.map_cons, List.map_nil]); rfl) ?_
            refine (name_calls k.1 _).mono ?_
            rintro e_ w7 ⟨rfl, hb7⟩
            rw [HNAME.out]
            refine ⟨_, rfl, ?_⟩
            refine hK.out _ _ ⟨(hb7.cell (World.block_lt_of_cell? _ _ hHeld.1)).trans hHeld.1, (hb7.cell (World.block_lt_of_cell? _ _ hHeld.2.1)).trans hHeld.2.1, (hb7.cell (World.block_lt_of_cell? _ _ hHeld.2.2.1)).trans hHeld.2.2.1, hHeld.2.2.2.trans (hb7.mono hHeld.2.2.2.size)⟩ (fun hHeld => ?_)
            clear hK K
            refine norm_ (a' := ?_) ?_ ?_
            rotate_left
            · show Act.put _ (some 56) _ = _
              simp only [Act.put, sa, sz, ss, i64_w, i32_w]
              rfl
            clear hb7
            refine pure_ (i := 3) (N := some 57) (v := ?_) (a' := ?_) (bb 28 15) rfl rfl (by kernel_rfl) (fun _ _ _ h => h) (Or.inl ⟨by rfl, ?_⟩) ?_ ?_
            rotate_left
            · intro w'
              go_simp
              with_reducible rfl
            rotate_left
            · simp only [Act.put, sa, sz, ss, i64_w, i32_w]
              rfl
            refine pure_ (i := 4) (N := some 58) (v := ?_) (a' := ?_) (bb 28 31) rfl rfl (by kernel_rfl) (fun _ _ _ h => h) (Or.inl ⟨by rfl, ?_⟩) ?_ ?_
            rotate_left
            · intro w'
              go_simp
              with_reducible rfl
            rotate_left
            · simp only [Act.put, sa, sz, ss, i64_w, i32_w]
              rfl
            refine pure_ (i := 5) (N := some 59) (v := ?_) (a' := ?_) (bb 28 63) rfl rfl (by kernel_rfl) (fun _ _ _ h => h) (Or.inl ⟨by rfl, ?_⟩) ?_ ?_
            rotate_left
            · intro w'
              go_simp
              with_reducible rfl
            rotate_left
            · simp only [Act.put, sa, sz, ss, i64_w, i32_w]
              rfl
            refine pure_ (i := 6) (N := some 60) (v := ?_) (a' := ?_) (bb 28 127) rfl rfl (by kernel_rfl) (fun _ _ _ h => h) (Or.inl ⟨by rfl, ?_⟩) ?_ ?_
            rotate_left
            · intro w'
              go_simp
              with_reducible rfl
            rotate_left
            · simp only [Act.put, sa, sz, ss, i64_w, i32_w]
              rfl
            refine pure_ (i := 7) (N := some 61) (v := ?_) (a' := ?_) (bb 28 255) rfl rfl (by kernel_rfl) (fun _ _ _ h => h) (Or.inl ⟨by rfl, ?_⟩) ?_ ?_
            rotate_left
            · intro w'
              go_simp
              with_reducible rfl
            rotate_left
            · simp only [Act.put, sa, sz, ss, i64_w, i32_w]
              rfl
            refine pure_ (i := 8) (N := some 62) (v := ?_) (a' := ?_) (bb 28 511) rfl rfl (by kernel_rfl) (fun _ _ _ h => h) (Or.inl ⟨by rfl, ?_⟩) ?_ ?_
            rotate_left
            · intro w'
              go_simp
              with_reducible rfl
            rotate_left
            · simp only [Act.put, sa, sz, ss, i64_w, i32_w]
              rfl
            refine take_ (i := 9) (N := some 63) (v := ?_) (a' := ?_) (bb 28 1023) rfl rfl (by kernel_rfl) (fun _ _ _ h => h) (Or.inl ⟨by rfl, ?_⟩) hHeld ?_ ?_
            rotate_left
            · rintro w' ⟨s1_, s2_, s3_, s4_⟩
              go_simp
              with_reducible rfl
            rotate_left
            · simp only [Act.put, sa, sz, ss, i64_w, i32_w]
              rfl
            refine pure_ (i := 10) (N := some 64) (v := ?_) (a' := ?_) (bb 28 2047) rfl rfl (by kernel_rfl) (fun _ _ _ h => h) (Or.inl ⟨by rfl, ?_⟩) ?_ ?_
            rotate_left
            · intro w'
              go_simp
              with_reducible rfl
            rotate_left
            · simp only [Act.put, sa, sz, ss, i64_w, i32_w]
              rfl
            refine pure_ (i := 11) (N := some 65) (v := ?_) (a' := ?_) (bb 28 4095) rfl rfl (by kernel_rfl) (fun _ _ _ h => h) (Or.inl ⟨by rfl, ?_⟩) ?_ ?_
            rotate_left
            · intro w'
              go_simp
              with_reducible rfl
            rotate_left
            · simp only [Act.put, sa, sz, ss, i64_w, i32_w]
              rfl
            refine pure_ (i := 12) (N := some 66) (v := ?_) (a' := ?_) (bb 28 8191) rfl rfl (by kernel_rfl) (fun _ _ _ h => h) (Or.inl ⟨by rfl, ?_⟩) ?_ ?_
            rotate_left
            · intro w'
              go_simp
              with_reducible rfl
            rotate_left
            · simp only [Act.put, sa, sz, ss, i64_w, i32_w]
              rfl
            refine pure_ (i := 13) (N := some 67) (v := ?_) (a' := ?_) (bb 28 16383) rfl rfl (by kernel_rfl) (fun _ _ _ h => h) (Or.inl ⟨by rfl, ?_⟩) ?_ ?_
            rotate_left
            · intro w'
              go_simp
              with_reducible rfl
            rotate_left
            · simp only [Act.put, sa, sz, ss, i64_w, i32_w]
              rfl
            refine take_ (i := 14) (N := some 68) (v := ?_) (a' := ?_) (bb 28 32767) rfl rfl (by kernel_rfl) (fun _ _ _ h => h) (Or.inl ⟨by rfl, ?_⟩) hHeld ?_ ?_
            rotate_left
            · rintro w' ⟨s1_, s2_, s3_, s4_⟩
              go_simp
              with_reducible rfl
            rotate_left
            · simp only [Act.put, sa, sz, ss, i64_w, i32_w]
              rfl
            refine pure_ (i := 15) (N := some 69) (v := ?_) (a' := ?_) (bb 28 65535) rfl rfl (by kernel_rfl) (fun _ _ _ h => h) (Or.inl ⟨by rfl, ?_⟩) ?_ ?_
            rotate_left
            · intro w'
              go_simp
              with_reducible rfl
            rotate_left
            · simp only [Act.put, sa, sz, ss, i64_w, i32_w]
              rfl
            refine take_ (i := 16) (N := some 70) (v := ?_) (a' := ?_) (bb 28 131071) rfl rfl (by kernel_rfl) (fun _ _ _ h => h) (Or.inl ⟨by rfl, ?_⟩) hHeld ?_ ?_
            rotate_left
            · rintro w' ⟨s1_, s2_, s3_, s4_⟩
              go_simp
              with_reducible rfl
            rotate_left
            · simp only [Act.put, sa, sz, ss, i64_w, i32_w]
              rfl
            refine pure_ (i := 17) (N := some 71) (v := ?_) (a' := ?_) (bb 28 262143) rfl rfl (by kernel_rfl) (fun _ _ _ h => h) (Or.inl ⟨by rfl, ?_⟩) ?_ ?_
            rotate_left
            · intro w'
              go_simp
              with_reducible rfl
            rotate_left
            · simp only [Act.put, sa, sz, ss, i64_w, i32_w]
              rfl
            refine pure_ (i := 18) (N := some 72) (v := ?_) (a' := ?_) (bb 28 524287) rfl rfl (by kernel_rfl) (fun _ _ _ h => h) (Or.inl ⟨by rfl, ?_⟩) ?_ ?_
            rotate_left
            · intro w'
              go_simp
              with_reducible rfl
            rotate_left
            · simp only [Act.put, sa, sz, ss, i64_w, i32_w]
              rfl
            refine pure_ (i := 19) (N := some 73) (v := ?_) (a' := ?_) (bb 28 1048575) rfl rfl (by kernel_rfl) (fun _ _ _ h => h) (Or.inl ⟨by rfl, ?_⟩) ?_ ?_
            rotate_left
            · intro w'
              go_simp
              with_reducible rfl
            rotate_left
            · simp only [Act.put, sa, sz, ss, i64_w, i32_w]
              rfl
            refine pure_ (i := 20) (N := some 74) (v := ?_) (a' := ?_) (bb 28 2097151) rfl rfl (by kernel_rfl) (fun _ _ _ h => h) (Or.inl ⟨by rfl, ?_⟩) ?_ ?_
            rotate_left
            · intro w'
              go_simp
              with_reducible rfl
            rotate_left
            · simp only [Act.put, sa, sz, ss, i64_w, i32_w]
              rfl
            refine pure_ (i := 21) (N := some 75) (v := ?_) (a' := ?_) (bb 28 4194303) rfl rfl (by kernel_rfl) (fun _ _ _ h => h) (Or.inl ⟨by rfl, ?_⟩) ?_ ?_
            rotate_left
            · intro w'
              go_simp
              with_reducible rfl
            rotate_left
            · simp only [Act.put, sa, sz, ss, i64_w, i32_w]
              rfl
            refine pure_ (i := 22) (N := some 76) (v := ?_) (a' := ?_) (bb 28 8388607) rfl rfl (by kernel_rfl) (fun _ _ _ h => h) (Or.inl ⟨by rfl, ?_⟩) ?_ ?_
            rotate_left
            · intro w'
              go_simp
              with_reducible rfl
            rotate_left
            · simp only [Act.put, sa, sz, ss, i64_w, i32_w]
              rfl
            refine pure_ (i := 23) (N := some 77) (v := ?_) (a' := ?_) (bb 28 16777215) rfl rfl (by kernel_rfl) (fun _ _ _ h => h) (Or.inl ⟨by rfl, ?_⟩) ?_ ?_
            rotate_left
            · intro w'
              go_simp
              with_reducible rfl
            rotate_left
            · simp only [Act.put, sa, sz, ss, i64_w, i32_w]
              rfl
            refine pure_ (i := 24) (N := some 78) (v := undef) (a' := ?_) (bb 28 33554431) rfl rfl (by kernel_rfl) (fun _ _ _ h => h) (Or.inr ⟨by rfl, rfl⟩) ?_ ?_
            rotate_left
            · simp only [Act.put, sa, sz, ss, i64_w, i32_w]
              rfl
            refine pure_ (i := 25) (N := some 79) (v := undef) (a' := ?_) (bb 28 67108863) rfl rfl (by kernel_rfl) (fun _ _ _ h => h) (Or.inr ⟨by rfl, rfl⟩) ?_ ?_
            rotate_left
            · simp only [Act.put, sa, sz, ss, i64_w, i32_w]
              rfl
            refine pure_ (i := 26) (N := some 80) (v := ?_) (a' := ?_) (bb 28 134217727) rfl rfl (by kernel_rfl) (fun _ _ _ h => h) (Or.inl ⟨by rfl, ?_⟩) ?_ ?_
            rotate_left
            · intro w'
              go_simp
              with_reducible rfl
            rotate_left
            · simp only [Act.put, sa, sz, ss, i64_w, i32_w]
              rfl
            refine pure_ (i := 27) (N := some 81) (v := ?_) (a' := ?_) (bb 28 268435455) rfl rfl (by kernel_rfl) (fun _ _ _ h => h) (Or.inl ⟨by rfl, ?_⟩) ?_ ?_
            rotate_left
            · intro w'
              go_simp
              with_reducible rfl
            rotate_left
            · simp only [Act.put, sa, sz, ss, i64_w, i32_w]
              rfl
            refine done_ (by kernel_rfl) ?_
            have HBE := Aside0.mk hHeld.2.2.2
            clear hHeld hS
            go_wp2
            clear q4
            go_roundg (gk - 1)
            case measure => have := HJ.out; have := HLT.out; omega
            case rel => exact ⟨j + 1, jv + 1, by first | rfl | rw [w1_], ⟨by have := HJV.out; omega⟩, ⟨by have := HLT.out; omega, by have := HJ.out; omega⟩, ⟨HBW6.out.trans (HBE.out.mono HBW6.out.size)⟩, ⟨by rw [HTK.out]; exact fun z hz => (List.mem_append.1 hz).elim (HLM.out z) (fun h => by rw [List.mem_singleton.1 h]; exact ⟨HNAME.out, HLINK.out⟩)⟩, ⟨by rw [HTK.out]; exact names_snoc HNM.out (fun m z hz hm => by
                  rw [List.length_take] at hm
                  have e1 : m = i := by have := HIJ.out; have := HLT.out; omega
                  rw [e1, List.getElem?_take_of_lt (by have := HIJ.out; omega), HK'.out] at hz
                  rw [← Option.some.inj hz]
                  exact HBEF.out)⟩⟩
          · have hge : Op.bytesLess k'.1.toList k.1.toList = false := by rw [less_before, ByteArray.toList_eq, ByteArray.toList_eq]; simpa using hbef
            have HBEF := Aside0.mk hbef
            clear hbef
            refine start_ (n := 28) (S := fun W' => W'.cell? ⟨xb, 0, none⟩ = some (.string k.1) ∧ W'.cell? ⟨wb, 2, none⟩ = some (.slice (some ⟨g5, o5, none⟩) l.length c) ∧ W'.cell? ⟨g5, o5 + i * 3, none⟩ = some (.string k'.1) ∧ Below w6.heap.size w6 W') (ds := []) #[false, false, false, false, false, false, false, false, false, false, false, false, false, false, false, false, false, false, false, false, false, false, false, false, false, false, false, false] (by kernel_rfl) rfl rfl hS (fun hHeld => ?_)
            refine pure_ (i := 0) (N := some 54) (v := ?_) (a' := ?_) (bb 28 1) rfl rfl (by kernel_rfl) (fun _ _ _ h => h) (Or.inl ⟨by rfl, ?_⟩) ?_ ?_
            rotate_left
            · intro w'
              go_simp
              with_reducible rfl
            rotate_left
            · simp only [Act.put, sa, sz, ss, i64_w, i32_w]
              rfl
            refine take_ (i := 1) (N := some 55) (v := ?_) (a' := ?_) (bb 28 3) rfl rfl (by kernel_rfl) (fun _ _ _ h => h) (Or.inl ⟨by rfl, ?_⟩) hHeld ?_ ?_
            rotate_left
            · rintro w' ⟨s1_, s2_, s3_, s4_⟩
              go_simp
              with_reducible rfl
            rotate_left
            · simp only [Act.put, sa, sz, ss, i64_w, i32_w]
              rfl
            refine one_ (i := 2) (N := some 56) (bb 28 7) rfl rfl (by kernel_rfl) (by decide) (fun K hK => ?_)
            skip
            refine goes_ Tryz.func81 (by kernel_rfl) rfl #[.string k.1] (by rfl) rfl rfl (by (simp only [List.map_toArray, List.map_cons, List.map_nil]); rfl) ?_
            refine (name_calls k.1 _).mono ?_
            rintro e_ w7 ⟨rfl, hb7⟩
            rw [HNAME.out]
            refine ⟨_, rfl, ?_⟩
            refine hK.out _ _ ⟨(hb7.cell (World.block_lt_of_cell? _ _ hHeld.1)).trans hHeld.1, (hb7.cell (World.block_lt_of_cell? _ _ hHeld.2.1)).trans hHeld.2.1, (hb7.cell (World.block_lt_of_cell? _ _ hHeld.2.2.1)).trans hHeld.2.2.1, hHeld.2.2.2.trans (hb7.mono hHeld.2.2.2.size)⟩ (fun hHeld => ?_)
            clear hK K
            refine norm_ (a' := ?_) ?_ ?_
            rotate_left
            · show Act.put _ (some 56) _ = _
              simp only [Act.put, sa, sz, ss, i64_w, i32_w]
              rfl
            clear hb7
            refine pure_ (i := 3) (N := some 57) (v := ?_) (a' := ?_) (bb 28 15) rfl rfl (by kernel_rfl) (fun _ _ _ h => h) (Or.inl ⟨by rfl, ?_⟩) ?_ ?_
            rotate_left
            · intro w'
              go_simp
              with_reducible rfl
            rotate_left
            · simp only [Act.put, sa, sz, ss, i64_w, i32_w]
              rfl
            refine pure_ (i := 4) (N := some 58) (v := ?_) (a' := ?_) (bb 28 31) rfl rfl (by kernel_rfl) (fun _ _ _ h => h) (Or.inl ⟨by rfl, ?_⟩) ?_ ?_
            rotate_left
            · intro w'
              go_simp
              with_reducible rfl
            rotate_left
            · simp only [Act.put, sa, sz, ss, i64_w, i32_w]
              rfl
            refine pure_ (i := 5) (N := some 59) (v := ?_) (a' := ?_) (bb 28 63) rfl rfl (by kernel_rfl) (fun _ _ _ h => h) (Or.inl ⟨by rfl, ?_⟩) ?_ ?_
            rotate_left
            · intro w'
              go_simp
              with_reducible rfl
            rotate_left
            · simp only [Act.put, sa, sz, ss, i64_w, i32_w]
              rfl
            refine pure_ (i := 6) (N := some 60) (v := ?_) (a' := ?_) (bb 28 127) rfl rfl (by kernel_rfl) (fun _ _ _ h => h) (Or.inl ⟨by rfl, ?_⟩) ?_ ?_
            rotate_left
            · intro w'
              go_simp
              with_reducible rfl
            rotate_left
            · simp only [Act.put, sa, sz, ss, i64_w, i32_w]
              rfl
            refine pure_ (i := 7) (N := some 61) (v := ?_) (a' := ?_) (bb 28 255) rfl rfl (by kernel_rfl) (fun _ _ _ h => h) (Or.inl ⟨by rfl, ?_⟩) ?_ ?_
            rotate_left
            · intro w'
              go_simp
              with_reducible rfl
            rotate_left
            · simp only [Act.put, sa, sz, ss, i64_w, i32_w]
              rfl
            refine pure_ (i := 8) (N := some 62) (v := ?_) (a' := ?_) (bb 28 511) rfl rfl (by kernel_rfl) (fun _ _ _ h => h) (Or.inl ⟨by rfl, ?_⟩) ?_ ?_
            rotate_left
            · intro w'
              go_simp
              with_reducible rfl
            rotate_left
            · simp only [Act.put, sa, sz, ss, i64_w, i32_w]
              rfl
            refine take_ (i := 9) (N := some 63) (v := ?_) (a' := ?_) (bb 28 1023) rfl rfl (by kernel_rfl) (fun _ _ _ h => h) (Or.inl ⟨by rfl, ?_⟩) hHeld ?_ ?_
            rotate_left
            · rintro w' ⟨s1_, s2_, s3_, s4_⟩
              go_simp
              with_reducible rfl
            rotate_left
            · simp only [Act.put, sa, sz, ss, i64_w, i32_w]
              rfl
            refine pure_ (i := 10) (N := some 64) (v := ?_) (a' := ?_) (bb 28 2047) rfl rfl (by kernel_rfl) (fun _ _ _ h => h) (Or.inl ⟨by rfl, ?_⟩) ?_ ?_
            rotate_left
            · intro w'
              go_simp
              with_reducible rfl
            rotate_left
            · simp only [Act.put, sa, sz, ss, i64_w, i32_w]
              rfl
            refine pure_ (i := 11) (N := some 65) (v := ?_) (a' := ?_) (bb 28 4095) rfl rfl (by kernel_rfl) (fun _ _ _ h => h) (Or.inl ⟨by rfl, ?_⟩) ?_ ?_
            rotate_left
            · intro w'
              go_simp
              with_reducible rfl
            rotate_left
            · simp only [Act.put, sa, sz, ss, i64_w, i32_w]
              rfl
            refine pure_ (i := 12) (N := some 66) (v := ?_) (a' := ?_) (bb 28 8191) rfl rfl (by kernel_rfl) (fun _ _ _ h => h) (Or.inl ⟨by rfl, ?_⟩) ?_ ?_
            rotate_left
            · intro w'
              go_simp
              with_reducible rfl
            rotate_left
            · simp only [Act.put, sa, sz, ss, i64_w, i32_w]
              rfl
            refine pure_ (i := 13) (N := some 67) (v := ?_) (a' := ?_) (bb 28 16383) rfl rfl (by kernel_rfl) (fun _ _ _ h => h) (Or.inl ⟨by rfl, ?_⟩) ?_ ?_
            rotate_left
            · intro w'
              go_simp
              with_reducible rfl
            rotate_left
            · simp only [Act.put, sa, sz, ss, i64_w, i32_w]
              rfl
            refine take_ (i := 14) (N := some 68) (v := ?_) (a' := ?_) (bb 28 32767) rfl rfl (by kernel_rfl) (fun _ _ _ h => h) (Or.inl ⟨by rfl, ?_⟩) hHeld ?_ ?_
            rotate_left
            · rintro w' ⟨s1_, s2_, s3_, s4_⟩
              go_simp
              with_reducible rfl
            rotate_left
            · simp only [Act.put, sa, sz, ss, i64_w, i32_w]
              rfl
            refine pure_ (i := 15) (N := some 69) (v := ?_) (a' := ?_) (bb 28 65535) rfl rfl (by kernel_rfl) (fun _ _ _ h => h) (Or.inl ⟨by rfl, ?_⟩) ?_ ?_
            rotate_left
            · intro w'
              go_simp
              with_reducible rfl
            rotate_left
            · simp only [Act.put, sa, sz, ss, i64_w, i32_w]
              rfl
            refine take_ (i := 16) (N := some 70) (v := ?_) (a' := ?_) (bb 28 131071) rfl rfl (by kernel_rfl) (fun _ _ _ h => h) (Or.inl ⟨by rfl, ?_⟩) hHeld ?_ ?_
            rotate_left
            · rintro w' ⟨s1_, s2_, s3_, s4_⟩
              go_simp
              with_reducible rfl
            rotate_left
            · simp only [Act.put, sa, sz, ss, i64_w, i32_w]
              rfl
            refine pure_ (i := 17) (N := some 71) (v := ?_) (a' := ?_) (bb 28 262143) rfl rfl (by kernel_rfl) (fun _ _ _ h => h) (Or.inl ⟨by rfl, ?_⟩) ?_ ?_
            rotate_left
            · intro w'
              go_simp
              with_reducible rfl
            rotate_left
            · simp only [Act.put, sa, sz, ss, i64_w, i32_w]
              rfl
            refine pure_ (i := 18) (N := some 72) (v := ?_) (a' := ?_) (bb 28 524287) rfl rfl (by kernel_rfl) (fun _ _ _ h => h) (Or.inl ⟨by rfl, ?_⟩) ?_ ?_
            rotate_left
            · intro w'
              go_simp
              with_reducible rfl
            rotate_left
            · simp only [Act.put, sa, sz, ss, i64_w, i32_w]
              rfl
            refine pure_ (i := 19) (N := some 73) (v := ?_) (a' := ?_) (bb 28 1048575) rfl rfl (by kernel_rfl) (fun _ _ _ h => h) (Or.inl ⟨by rfl, ?_⟩) ?_ ?_
            rotate_left
            · intro w'
              go_simp
              with_reducible rfl
            rotate_left
            · simp only [Act.put, sa, sz, ss, i64_w, i32_w]
              rfl
            refine pure_ (i := 20) (N := some 74) (v := ?_) (a' := ?_) (bb 28 2097151) rfl rfl (by kernel_rfl) (fun _ _ _ h => h) (Or.inl ⟨by rfl, ?_⟩) ?_ ?_
            rotate_left
            · intro w'
              go_simp
              with_reducible rfl
            rotate_left
            · simp only [Act.put, sa, sz, ss, i64_w, i32_w]
              rfl
            refine pure_ (i := 21) (N := some 75) (v := undef) (a' := ?_) (bb 28 4194303) rfl rfl (by kernel_rfl) (fun _ _ _ h => h) (Or.inr ⟨by rfl, rfl⟩) ?_ ?_
            rotate_left
            · simp only [Act.put, sa, sz, ss, i64_w, i32_w]
              rfl
            refine pure_ (i := 22) (N := some 76) (v := undef) (a' := ?_) (bb 28 8388607) rfl rfl (by kernel_rfl) (fun _ _ _ h => h) (Or.inr ⟨by rfl, rfl⟩) ?_ ?_
            rotate_left
            · simp only [Act.put, sa, sz, ss, i64_w, i32_w]
              rfl
            refine pure_ (i := 23) (N := some 77) (v := undef) (a' := ?_) (bb 28 16777215) rfl rfl (by kernel_rfl) (fun _ _ _ h => h) (Or.inr ⟨by rfl, rfl⟩) ?_ ?_
            rotate_left
            · simp only [Act.put, sa, sz, ss, i64_w, i32_w]
              rfl
            refine pure_ (i := 24) (N := some 78) (v := undef) (a' := ?_) (bb 28 33554431) rfl rfl (by kernel_rfl) (fun _ _ _ h => h) (Or.inr ⟨by rfl, rfl⟩) ?_ ?_
            rotate_left
            · simp only [Act.put, sa, sz, ss, i64_w, i32_w]
              rfl
            refine pure_ (i := 25) (N := some 79) (v := undef) (a' := ?_) (bb 28 67108863) rfl rfl (by kernel_rfl) (fun _ _ _ h => h) (Or.inr ⟨by rfl, rfl⟩) ?_ ?_
            rotate_left
            · simp only [Act.put, sa, sz, ss, i64_w, i32_w]
              rfl
            refine pure_ (i := 26) (N := some 80) (v := undef) (a' := ?_) (bb 28 134217727) rfl rfl (by kernel_rfl) (fun _ _ _ h => h) (Or.inr ⟨by rfl, rfl⟩) ?_ ?_
            rotate_left
            · simp only [Act.put, sa, sz, ss, i64_w, i32_w]
              rfl
            refine pure_ (i := 27) (N := some 81) (v := ?_) (a' := ?_) (bb 28 268435455) rfl rfl (by kernel_rfl) (fun _ _ _ h => h) (Or.inl ⟨by rfl, ?_⟩) ?_ ?_
            rotate_left
            · intro w'
              go_simp
              with_reducible rfl
            rotate_left
            · simp only [Act.put, sa, sz, ss, i64_w, i32_w]
              rfl
            refine done_ (by kernel_rfl) ?_
            have HBE := Aside0.mk hHeld.2.2.2
            clear hHeld hS
            go_wp2
            go_ret
            exact may_no (fun h => absurd (names_at h.2.2 HK'.out HKE.out (by have := HIJ.out; omega)) HBEF.out) (HB2.out.trans ((HBW6.out.trans (HBE.out.mono HBW6.out.size)).mono HB2.out.size))
        · have HBADL : Aside0 (¬ LkMay k) := ⟨fun h => by
            rcases h.2 with h1 | h1
            · have := h1.2; rw [HPP.out] at this; exact hpy this
            · omega⟩
          have g1 : (py == 0) = false := by simpa using hpy
          clear h0 hpy
          go_upto_region 9 with (fail)
          clear y1 g1
          by_cases hname : goodName k.1 = true
          rotate_left
          · have HNAME : Aside0 (goodName k.1 = false) := ⟨by simpa using hname⟩
            have HBADN := Aside0.mk hname
            clear hname
            have hS : w6.drew.cell? ⟨xb, 0, none⟩ = some (.string k.1) ∧ Below w6.heap.size w6 w6.drew := ⟨y0, below_drew (Below.refl _ _)⟩
            refine start_ (n := 28) (S := fun W' => W'.cell? ⟨xb, 0, none⟩ = some (.string k.1) ∧ Below w6.heap.size w6 W') (ds := []) #[false, false, false, false, false, false, false, false, false, false, false, false, false, false, false, false, false, false, false, false, false, false, false, false, false, false, false, false] (by kernel_rfl) rfl rfl hS (fun hHeld => ?_)
            refine pure_ (i := 0) (N := some 54) (v := ?_) (a' := ?_) (bb 28 1) rfl rfl (by kernel_rfl) (fun _ _ _ h => h) (Or.inl ⟨by rfl, ?_⟩) ?_ ?_
            rotate_left
            · intro w'
              go_simp
              with_reducible rfl
            rotate_left
            · simp only [Act.put, sa, sz, ss, i64_w, i32_w]
              rfl
            refine take_ (i := 1) (N := some 55) (v := ?_) (a' := ?_) (bb 28 3) rfl rfl (by kernel_rfl) (fun _ _ _ h => h) (Or.inl ⟨by rfl, ?_⟩) hHeld ?_ ?_
            rotate_left
            · rintro w' ⟨s1_, s2_⟩
              go_simp
              with_reducible rfl
            rotate_left
            · simp only [Act.put, sa, sz, ss, i64_w, i32_w]
              rfl
            refine one_ (i := 2) (N := some 56) (bb 28 7) rfl rfl (by kernel_rfl) (by decide) (fun K hK => ?_)
            skip
            refine goes_ Tryz.func81 (by kernel_rfl) rfl #[.string k.1] (by rfl) rfl rfl (by (simp only [List.map_toArray, List.map_cons, List.map_nil]); rfl) ?_
            refine (name_calls k.1 _).mono ?_
            rintro e_ w7 ⟨rfl, hb7⟩
            rw [HNAME.out]
            refine ⟨_, rfl, ?_⟩
            refine hK.out _ _ ⟨(hb7.cell (World.block_lt_of_cell? _ _ hHeld.1)).trans hHeld.1, hHeld.2.trans (hb7.mono hHeld.2.size)⟩ (fun hHeld => ?_)
            clear hK K
            refine norm_ (a' := ?_) ?_ ?_
            rotate_left
            · show Act.put _ (some 56) _ = _
              simp only [Act.put, sa, sz, ss, i64_w, i32_w]
              rfl
            clear hb7
            refine pure_ (i := 3) (N := some 57) (v := ?_) (a' := ?_) (bb 28 15) rfl rfl (by kernel_rfl) (fun _ _ _ h => h) (Or.inl ⟨by rfl, ?_⟩) ?_ ?_
            rotate_left
            · intro w'
              go_simp
              with_reducible rfl
            rotate_left
            · simp only [Act.put, sa, sz, ss, i64_w, i32_w]
              rfl
            refine pure_ (i := 4) (N := some 58) (v := ?_) (a' := ?_) (bb 28 31) rfl rfl (by kernel_rfl) (fun _ _ _ h => h) (Or.inl ⟨by rfl, ?_⟩) ?_ ?_
            rotate_left
            · intro w'
              go_simp
              with_reducible rfl
            rotate_left
            · simp only [Act.put, sa, sz, ss, i64_w, i32_w]
              rfl
            refine pure_ (i := 5) (N := some 59) (v := undef) (a' := ?_) (bb 28 63) rfl rfl (by kernel_rfl) (fun _ _ _ h => h) (Or.inr ⟨by rfl, rfl⟩) ?_ ?_
            rotate_left
            · simp only [Act.put, sa, sz, ss, i64_w, i32_w]
              rfl
            refine pure_ (i := 6) (N := some 60) (v := undef) (a' := ?_) (bb 28 127) rfl rfl (by kernel_rfl) (fun _ _ _ h => h) (Or.inr ⟨by rfl, rfl⟩) ?_ ?_
            rotate_left
            · simp only [Act.put, sa, sz, ss, i64_w, i32_w]
              rfl
            refine pure_ (i := 7) (N := some 61) (v := undef) (a' := ?_) (bb 28 255) rfl rfl (by kernel_rfl) (fun _ _ _ h => h) (Or.inr ⟨by rfl, rfl⟩) ?_ ?_
            rotate_left
            · simp only [Act.put, sa, sz, ss, i64_w, i32_w]
              rfl
            refine pure_ (i := 8) (N := some 62) (v := undef) (a' := ?_) (bb 28 511) rfl rfl (by kernel_rfl) (fun _ _ _ h => h) (Or.inr ⟨by rfl, rfl⟩) ?_ ?_
            rotate_left
            · simp only [Act.put, sa, sz, ss, i64_w, i32_w]
              rfl
            refine pure_ (i := 9) (N := some 63) (v := undef) (a' := ?_) (bb 28 1023) rfl rfl (by kernel_rfl) (fun _ _ _ h => h) (Or.inr ⟨by rfl, rfl⟩) ?_ ?_
            rotate_left
            · simp only [Act.put, sa, sz, ss, i64_w, i32_w]
              rfl
            refine pure_ (i := 10) (N := some 64) (v := undef) (a' := ?_) (bb 28 2047) rfl rfl (by kernel_rfl) (fun _ _ _ h => h) (Or.inr ⟨by rfl, rfl⟩) ?_ ?_
            rotate_left
            · simp only [Act.put, sa, sz, ss, i64_w, i32_w]
              rfl
            refine pure_ (i := 11) (N := some 65) (v := undef) (a' := ?_) (bb 28 4095) rfl rfl (by kernel_rfl) (fun _ _ _ h => h) (Or.inr ⟨by rfl, rfl⟩) ?_ ?_
            rotate_left
            · simp only [Act.put, sa, sz, ss, i64_w, i32_w]
              rfl
            refine pure_ (i := 12) (N := some 66) (v := undef) (a' := ?_) (bb 28 8191) rfl rfl (by kernel_rfl) (fun _ _ _ h => h) (Or.inr ⟨by rfl, rfl⟩) ?_ ?_
            rotate_left
            · simp only [Act.put, sa, sz, ss, i64_w, i32_w]
              rfl
            refine pure_ (i := 13) (N := some 67) (v := undef) (a' := ?_) (bb 28 16383) rfl rfl (by kernel_rfl) (fun _ _ _ h => h) (Or.inr ⟨by rfl, rfl⟩) ?_ ?_
            rotate_left
            · simp only [Act.put, sa, sz, ss, i64_w, i32_w]
              rfl
            refine pure_ (i := 14) (N := some 68) (v := undef) (a' := ?_) (bb 28 32767) rfl rfl (by kernel_rfl) (fun _ _ _ h => h) (Or.inr ⟨by rfl, rfl⟩) ?_ ?_
            rotate_left
            · simp only [Act.put, sa, sz, ss, i64_w, i32_w]
              rfl
            refine pure_ (i := 15) (N := some 69) (v := undef) (a' := ?_) (bb 28 65535) rfl rfl (by kernel_rfl) (fun _ _ _ h => h) (Or.inr ⟨by rfl, rfl⟩) ?_ ?_
            rotate_left
            · simp only [Act.put, sa, sz, ss, i64_w, i32_w]
              rfl
            refine pure_ (i := 16) (N := some 70) (v := undef) (a' := ?_) (bb 28 131071) rfl rfl (by kernel_rfl) (fun _ _ _ h => h) (Or.inr ⟨by rfl, rfl⟩) ?_ ?_
            rotate_left
            · simp only [Act.put, sa, sz, ss, i64_w, i32_w]
              rfl
            refine pure_ (i := 17) (N := some 71) (v := undef) (a' := ?_) (bb 28 262143) rfl rfl (by kernel_rfl) (fun _ _ _ h => h) (Or.inr ⟨by rfl, rfl⟩) ?_ ?_
            rotate_left
            · simp only [Act.put, sa, sz, ss, i64_w, i32_w]
              rfl
            refine pure_ (i := 18) (N := some 72) (v := undef) (a' := ?_) (bb 28 524287) rfl rfl (by kernel_rfl) (fun _ _ _ h => h) (Or.inr ⟨by rfl, rfl⟩) ?_ ?_
            rotate_left
            · simp only [Act.put, sa, sz, ss, i64_w, i32_w]
              rfl
            refine pure_ (i := 19) (N := some 73) (v := ?_) (a' := ?_) (bb 28 1048575) rfl rfl (by kernel_rfl) (fun _ _ _ h => h) (Or.inl ⟨by rfl, ?_⟩) ?_ ?_
            rotate_left
            · intro w'
              go_simp
              with_reducible rfl
            rotate_left
            · simp only [Act.put, sa, sz, ss, i64_w, i32_w]
              rfl
            refine pure_ (i := 20) (N := some 74) (v := ?_) (a' := ?_) (bb 28 2097151) rfl rfl (by kernel_rfl) (fun _ _ _ h => h) (Or.inl ⟨by rfl, ?_⟩) ?_ ?_
            rotate_left
            · intro w'
              go_simp
              with_reducible rfl
            rotate_left
            · simp only [Act.put, sa, sz, ss, i64_w, i32_w]
              rfl
            refine pure_ (i := 21) (N := some 75) (v := undef) (a' := ?_) (bb 28 4194303) rfl rfl (by kernel_rfl) (fun _ _ _ h => h) (Or.inr ⟨by rfl, rfl⟩) ?_ ?_
            rotate_left
            · simp only [Act.put, sa, sz, ss, i64_w, i32_w]
              rfl
            refine pure_ (i := 22) (N := some 76) (v := undef) (a' := ?_) (bb 28 8388607) rfl rfl (by kernel_rfl) (fun _ _ _ h => h) (Or.inr ⟨by rfl, rfl⟩) ?_ ?_
            rotate_left
            · simp only [Act.put, sa, sz, ss, i64_w, i32_w]
              rfl
            refine pure_ (i := 23) (N := some 77) (v := undef) (a' := ?_) (bb 28 16777215) rfl rfl (by kernel_rfl) (fun _ _ _ h => h) (Or.inr ⟨by rfl, rfl⟩) ?_ ?_
            rotate_left
            · simp only [Act.put, sa, sz, ss, i64_w, i32_w]
              rfl
            refine pure_ (i := 24) (N := some 78) (v := undef) (a' := ?_) (bb 28 33554431) rfl rfl (by kernel_rfl) (fun _ _ _ h => h) (Or.inr ⟨by rfl, rfl⟩) ?_ ?_
            rotate_left
            · simp only [Act.put, sa, sz, ss, i64_w, i32_w]
              rfl
            refine pure_ (i := 25) (N := some 79) (v := undef) (a' := ?_) (bb 28 67108863) rfl rfl (by kernel_rfl) (fun _ _ _ h => h) (Or.inr ⟨by rfl, rfl⟩) ?_ ?_
            rotate_left
            · simp only [Act.put, sa, sz, ss, i64_w, i32_w]
              rfl
            refine pure_ (i := 26) (N := some 80) (v := undef) (a' := ?_) (bb 28 134217727) rfl rfl (by kernel_rfl) (fun _ _ _ h => h) (Or.inr ⟨by rfl, rfl⟩) ?_ ?_
            rotate_left
            · simp only [Act.put, sa, sz, ss, i64_w, i32_w]
              rfl
            refine pure_ (i := 27) (N := some 81) (v := ?_) (a' := ?_) (bb 28 268435455) rfl rfl (by kernel_rfl) (fun _ _ _ h => h) (Or.inl ⟨by rfl, ?_⟩) ?_ ?_
            rotate_left
            · intro w'
              go_simp
              with_reducible rfl
            rotate_left
            · simp only [Act.put, sa, sz, ss, i64_w, i32_w]
              rfl
            refine done_ (by kernel_rfl) ?_
            have HBE := Aside0.mk hHeld.2
            clear hHeld hS
            go_wp2
            go_ret
            exact may_no (fun h => absurd (h.2.1 k HKM.out).1 HBADN.out) (HB2.out.trans ((HBW6.out.trans (HBE.out.mono HBW6.out.size)).mono HB2.out.size))
          have HNAME := Aside0.mk hname
          clear hname
          by_cases hj0 : j = 0
          · have t1 : decide (0 < jv) = false := decide_eq_false (by have := HJV.out; omega)
            have hS : w6.drew.cell? ⟨xb, 0, none⟩ = some (.string k.1) ∧ Below w6.heap.size w6 w6.drew := ⟨y0, below_drew (Below.refl _ _)⟩
            refine start_ (n := 28) (S := fun W' => W'.cell? ⟨xb, 0, none⟩ = some (.string k.1) ∧ Below w6.heap.size w6 W') (ds := []) #[false, false, false, false, false, false, false, false, false, false, false, false, false, false, false, false, false, false, false, false, false, false, false, false, false, false, false, false] (by kernel_rfl) rfl rfl hS (fun hHeld => ?_)
            refine pure_ (i := 0) (N := some 54) (v := ?_) (a' := ?_) (bb 28 1) rfl rfl (by kernel_rfl) (fun _ _ _ h => h) (Or.inl ⟨by rfl, ?_⟩) ?_ ?_
            rotate_left
            · intro w'
              go_simp
              with_reducible rfl
            rotate_left
            · simp only [Act.put, sa, sz, ss, i64_w, i32_w]
              rfl
            refine take_ (i := 1) (N := some 55) (v := ?_) (a' := ?_) (bb 28 3) rfl rfl (by kernel_rfl) (fun _ _ _ h => h) (Or.inl ⟨by rfl, ?_⟩) hHeld ?_ ?_
            rotate_left
            · rintro w' ⟨s1_, s2_⟩
              go_simp
              with_reducible rfl
            rotate_left
            · simp only [Act.put, sa, sz, ss, i64_w, i32_w]
              rfl
            refine one_ (i := 2) (N := some 56) (bb 28 7) rfl rfl (by kernel_rfl) (by decide) (fun K hK => ?_)
            skip
            refine goes_ Tryz.func81 (by kernel_rfl) rfl #[.string k.1] (by rfl) rfl rfl (by (simp only [List.map_toArray, List.map_cons, List.map_nil]); rfl) ?_
            refine (name_calls k.1 _).mono ?_
            rintro e_ w7 ⟨rfl, hb7⟩
            rw [HNAME.out]
            refine ⟨_, rfl, ?_⟩
            refine hK.out _ _ ⟨(hb7.cell (World.block_lt_of_cell? _ _ hHeld.1)).trans hHeld.1, hHeld.2.trans (hb7.mono hHeld.2.size)⟩ (fun hHeld => ?_)
            clear hK K
            refine norm_ (a' := ?_) ?_ ?_
            rotate_left
            · show Act.put _ (some 56) _ = _
              simp only [Act.put, sa, sz, ss, i64_w, i32_w]
              rfl
            clear hb7
            refine pure_ (i := 3) (N := some 57) (v := ?_) (a' := ?_) (bb 28 15) rfl rfl (by kernel_rfl) (fun _ _ _ h => h) (Or.inl ⟨by rfl, ?_⟩) ?_ ?_
            rotate_left
            · intro w'
              go_simp
              with_reducible rfl
            rotate_left
            · simp only [Act.put, sa, sz, ss, i64_w, i32_w]
              rfl
            refine pure_ (i := 4) (N := some 58) (v := ?_) (a' := ?_) (bb 28 31) rfl rfl (by kernel_rfl) (fun _ _ _ h => h) (Or.inl ⟨by rfl, ?_⟩) ?_ ?_
            rotate_left
            · intro w'
              go_simp
              with_reducible rfl
            rotate_left
            · simp only [Act.put, sa, sz, ss, i64_w, i32_w]
              rfl
            refine pure_ (i := 5) (N := some 59) (v := ?_) (a' := ?_) (bb 28 63) rfl rfl (by kernel_rfl) (fun _ _ _ h => h) (Or.inl ⟨by rfl, ?_⟩) ?_ ?_
            rotate_left
            · intro w'
              go_simp
              with_reducible rfl
            rotate_left
            · simp only [Act.put, sa, sz, ss, i64_w, i32_w]
              rfl
            refine pure_ (i := 6) (N := some 60) (v := ?_) (a' := ?_) (bb 28 127) rfl rfl (by kernel_rfl) (fun _ _ _ h => h) (Or.inl ⟨by rfl, ?_⟩) ?_ ?_
            rotate_left
            · intro w'
              go_simp
              with_reducible rfl
            rotate_left
            · simp only [Act.put, sa, sz, ss, i64_w, i32_w]
              rfl
            refine pure_ (i := 7) (N := some 61) (v := ?_) (a' := ?_) (bb 28 255) rfl rfl (by kernel_rfl) (fun _ _ _ h => h) (Or.inl ⟨by rfl, ?_⟩) ?_ ?_
            rotate_left
            · intro w'
              go_simp
              with_reducible rfl
            rotate_left
            · simp only [Act.put, sa, sz, ss, i64_w, i32_w]
              rfl
            refine pure_ (i := 8) (N := some 62) (v := undef) (a' := ?_) (bb 28 511) rfl rfl (by kernel_rfl) (fun _ _ _ h => h) (Or.inr ⟨by rfl, rfl⟩) ?_ ?_
            rotate_left
            · simp only [Act.put, sa, sz, ss, i64_w, i32_w]
              rfl
            refine pure_ (i := 9) (N := some 63) (v := undef) (a' := ?_) (bb 28 1023) rfl rfl (by kernel_rfl) (fun _ _ _ h => h) (Or.inr ⟨by rfl, rfl⟩) ?_ ?_
            rotate_left
            · simp only [Act.put, sa, sz, ss, i64_w, i32_w]
              rfl
            refine pure_ (i := 10) (N := some 64) (v := undef) (a' := ?_) (bb 28 2047) rfl rfl (by kernel_rfl) (fun _ _ _ h => h) (Or.inr ⟨by rfl, rfl⟩) ?_ ?_
            rotate_left
            · simp only [Act.put, sa, sz, ss, i64_w, i32_w]
              rfl
            refine pure_ (i := 11) (N := some 65) (v := undef) (a' := ?_) (bb 28 4095) rfl rfl (by kernel_rfl) (fun _ _ _ h => h) (Or.inr ⟨by rfl, rfl⟩) ?_ ?_
            rotate_left
            · simp only [Act.put, sa, sz, ss, i64_w, i32_w]
              rfl
            refine pure_ (i := 12) (N := some 66) (v := undef) (a' := ?_) (bb 28 8191) rfl rfl (by kernel_rfl) (fun _ _ _ h => h) (Or.inr ⟨by rfl, rfl⟩) ?_ ?_
            rotate_left
            · simp only [Act.put, sa, sz, ss, i64_w, i32_w]
              rfl
            refine pure_ (i := 13) (N := some 67) (v := undef) (a' := ?_) (bb 28 16383) rfl rfl (by kernel_rfl) (fun _ _ _ h => h) (Or.inr ⟨by rfl, rfl⟩) ?_ ?_
            rotate_left
            · simp only [Act.put, sa, sz, ss, i64_w, i32_w]
              rfl
            refine pure_ (i := 14) (N := some 68) (v := undef) (a' := ?_) (bb 28 32767) rfl rfl (by kernel_rfl) (fun _ _ _ h => h) (Or.inr ⟨by rfl, rfl⟩) ?_ ?_
            rotate_left
            · simp only [Act.put, sa, sz, ss, i64_w, i32_w]
              rfl
            refine pure_ (i := 15) (N := some 69) (v := undef) (a' := ?_) (bb 28 65535) rfl rfl (by kernel_rfl) (fun _ _ _ h => h) (Or.inr ⟨by rfl, rfl⟩) ?_ ?_
            rotate_left
            · simp only [Act.put, sa, sz, ss, i64_w, i32_w]
              rfl
            refine pure_ (i := 16) (N := some 70) (v := undef) (a' := ?_) (bb 28 131071) rfl rfl (by kernel_rfl) (fun _ _ _ h => h) (Or.inr ⟨by rfl, rfl⟩) ?_ ?_
            rotate_left
            · simp only [Act.put, sa, sz, ss, i64_w, i32_w]
              rfl
            refine pure_ (i := 17) (N := some 71) (v := undef) (a' := ?_) (bb 28 262143) rfl rfl (by kernel_rfl) (fun _ _ _ h => h) (Or.inr ⟨by rfl, rfl⟩) ?_ ?_
            rotate_left
            · simp only [Act.put, sa, sz, ss, i64_w, i32_w]
              rfl
            refine pure_ (i := 18) (N := some 72) (v := ?_) (a' := ?_) (bb 28 524287) rfl rfl (by kernel_rfl) (fun _ _ _ h => h) (Or.inl ⟨by rfl, ?_⟩) ?_ ?_
            rotate_left
            · intro w'
              go_simp
              with_reducible rfl
            rotate_left
            · simp only [Act.put, sa, sz, ss, i64_w, i32_w]
              rfl
            refine pure_ (i := 19) (N := some 73) (v := ?_) (a' := ?_) (bb 28 1048575) rfl rfl (by kernel_rfl) (fun _ _ _ h => h) (Or.inl ⟨by rfl, ?_⟩) ?_ ?_
            rotate_left
            · intro w'
              go_simp
              with_reducible rfl
            rotate_left
            · simp only [Act.put, sa, sz, ss, i64_w, i32_w]
              rfl
            refine pure_ (i := 20) (N := some 74) (v := ?_) (a' := ?_) (bb 28 2097151) rfl rfl (by kernel_rfl) (fun _ _ _ h => h) (Or.inl ⟨by rfl, ?_⟩) ?_ ?_
            rotate_left
            · intro w'
              go_simp
              with_reducible rfl
            rotate_left
            · simp only [Act.put, sa, sz, ss, i64_w, i32_w]
              rfl
            refine pure_ (i := 21) (N := some 75) (v := ?_) (a' := ?_) (bb 28 4194303) rfl rfl (by kernel_rfl) (fun _ _ _ h => h) (Or.inl ⟨by rfl, ?_⟩) ?_ ?_
            rotate_left
            · intro w'
              go_simp
              with_reducible rfl
            rotate_left
            · simp only [Act.put, sa, sz, ss, i64_w, i32_w]
              rfl
            refine pure_ (i := 22) (N := some 76) (v := ?_) (a' := ?_) (bb 28 8388607) rfl rfl (by kernel_rfl) (fun _ _ _ h => h) (Or.inl ⟨by rfl, ?_⟩) ?_ ?_
            rotate_left
            · intro w'
              go_simp
              with_reducible rfl
            rotate_left
            · simp only [Act.put, sa, sz, ss, i64_w, i32_w]
              rfl
            refine pure_ (i := 23) (N := some 77) (v := ?_) (a' := ?_) (bb 28 16777215) rfl rfl (by kernel_rfl) (fun _ _ _ h => h) (Or.inl ⟨by rfl, ?_⟩) ?_ ?_
            rotate_left
            · intro w'
              go_simp
              with_reducible rfl
            rotate_left
            · simp only [Act.put, sa, sz, ss, i64_w, i32_w]
              rfl
            refine pure_ (i := 24) (N := some 78) (v := ?_) (a' := ?_) (bb 28 33554431) rfl rfl (by kernel_rfl) (fun _ _ _ h => h) (Or.inl ⟨by rfl, ?_⟩) ?_ ?_
            rotate_left
            · intro w'
              go_simp
              with_reducible rfl
            rotate_left
            · simp only [Act.put, sa, sz, ss, i64_w, i32_w]
              rfl
            refine pure_ (i := 25) (N := some 79) (v := ?_) (a' := ?_) (bb 28 67108863) rfl rfl (by kernel_rfl) (fun _ _ _ h => h) (Or.inl ⟨by rfl, ?_⟩) ?_ ?_
            rotate_left
            · intro w'
              go_simp
              with_reducible rfl
            rotate_left
            · simp only [Act.put, sa, sz, ss, i64_w, i32_w]
              rfl
            refine pure_ (i := 26) (N := some 80) (v := ?_) (a' := ?_) (bb 28 134217727) rfl rfl (by kernel_rfl) (fun _ _ _ h => h) (Or.inl ⟨by rfl, ?_⟩) ?_ ?_
            rotate_left
            · intro w'
              go_simp
              with_reducible rfl
            rotate_left
            · simp only [Act.put, sa, sz, ss, i64_w, i32_w]
              rfl
            refine pure_ (i := 27) (N := some 81) (v := ?_) (a' := ?_) (bb 28 268435455) rfl rfl (by kernel_rfl) (fun _ _ _ h => h) (Or.inl ⟨by rfl, ?_⟩) ?_ ?_
            rotate_left
            · intro w'
              go_simp
              with_reducible rfl
            rotate_left
            · simp only [Act.put, sa, sz, ss, i64_w, i32_w]
              rfl
            refine done_ (by kernel_rfl) ?_
            have HBE := Aside0.mk hHeld.2
            clear hHeld hS
            go_wp2
            go_ret
            exact may_no (fun h => absurd (h.2.1 k HKM.out) HBADL.out) (HB2.out.trans ((HBW6.out.trans (HBE.out.mono HBW6.out.size)).mono HB2.out.size))
          obtain ⟨i, hi⟩ : ∃ i, j = i + 1 := ⟨j - 1, by omega⟩
          obtain ⟨k', hk'⟩ : ∃ k', l[i]? = some k' := ⟨_, List.getElem?_eq_getElem (by have := HLT.out; omega)⟩
          obtain ⟨g6, o6, hA6, -, x0, -, -⟩ := HR6.out.at hk'
          obtain ⟨rfl, rfl⟩ : g5 = g6 ∧ o5 = o6 := by simpa using hA6
          have HK' := Aside0.mk hk'
          have t1 : decide (0 < jv) = true := decide_eq_true (by have := HJV.out; omega)
          have v1 : (jv - 1).toNat = i := by have := HJV.out; omega
          have v2 : (0 : Int) ≤ jv - 1 := by have := HJV.out; omega
          have v3 : (1 : Int) ≤ jv := by omega
          have v4 : jv ≤ (l.length : Int) := by have := HJV.out; have := HLT.out; omega
          have v5 : (jv - 1 < (l.length : Int)) = True := eq_true (by omega)
          have v6 : ((0 : Int) ≤ jv - 1) = True := eq_true v2
          have v7 : ((1 : Int) ≤ jv) = True := eq_true v3
          have v8 : (jv ≤ (l.length : Int)) = True := eq_true v4
          have hS : w6.drew.cell? ⟨xb, 0, none⟩ = some (.string k.1) ∧ w6.drew.cell? ⟨wb, 2, none⟩ = some (.slice (some ⟨g5, o5, none⟩) l.length c) ∧ w6.drew.cell? ⟨g5, o5 + i * 3, none⟩ = some (.string k'.1) ∧ Below w6.heap.size w6 w6.drew := ⟨y0, p2, x0, below_drew (Below.refl _ _)⟩
          have HIJ := Aside0.mk hi
          clear hA6 hk' hj0 hi
          by_cases hbef : bytesBefore k'.1.data.toList k.1.data.toList = true
          · have hge : Op.bytesLess k'.1.toList k.1.toList = true := by rw [less_before, ByteArray.toList_eq, ByteArray.toList_eq, hbef]
            have HBEF := Aside0.mk hbef
            clear hbef
            refine start_ (n := 28) (S := fun W' => W'.cell? ⟨xb, 0, none⟩ = some (.string k.1) ∧ W'.cell? ⟨wb, 2, none⟩ = some (.slice (some ⟨g5, o5, none⟩) l.length c) ∧ W'.cell? ⟨g5, o5 + i * 3, none⟩ = some (.string k'.1) ∧ Below w6.heap.size w6 W') (ds := []) #[false, false, false, false, false, false, false, false, false, false, false, false, false, false, false, false, false, false, false, false, false, false, false, false, false, false, false, false] (by kernel_rfl) rfl rfl hS (fun hHeld => ?_)
            refine pure_ (i := 0) (N := some 54) (v := ?_) (a' := ?_) (bb 28 1) rfl rfl (by kernel_rfl) (fun _ _ _ h => h) (Or.inl ⟨by rfl, ?_⟩) ?_ ?_
            rotate_left
            · intro w'
              go_simp
              with_reducible rfl
            rotate_left
            · simp only [Act.put, sa, sz, ss, i64_w, i32_w]
              rfl
            refine take_ (i := 1) (N := some 55) (v := ?_) (a' := ?_) (bb 28 3) rfl rfl (by kernel_rfl) (fun _ _ _ h => h) (Or.inl ⟨by rfl, ?_⟩) hHeld ?_ ?_
            rotate_left
            · rintro w' ⟨s1_, s2_, s3_, s4_⟩
              go_simp
              with_reducible rfl
            rotate_left
            · simp only [Act.put, sa, sz, ss, i64_w, i32_w]
              rfl
            refine one_ (i := 2) (N := some 56) (bb 28 7) rfl rfl (by kernel_rfl) (by decide) (fun K hK => ?_)
            skip
            refine goes_ Tryz.func81 (by kernel_rfl) rfl #[.string k.1] (by rfl) rfl rfl (by (simp only [List.map_toArray, List.map_cons, List.map_nil]); rfl) ?_
            refine (name_calls k.1 _).mono ?_
            rintro e_ w7 ⟨rfl, hb7⟩
            rw [HNAME.out]
            refine ⟨_, rfl, ?_⟩
            refine hK.out _ _ ⟨(hb7.cell (World.block_lt_of_cell? _ _ hHeld.1)).trans hHeld.1, (hb7.cell (World.block_lt_of_cell? _ _ hHeld.2.1)).trans hHeld.2.1, (hb7.cell (World.block_lt_of_cell? _ _ hHeld.2.2.1)).trans hHeld.2.2.1, hHeld.2.2.2.trans (hb7.mono hHeld.2.2.2.size)⟩ (fun hHeld => ?_)
            clear hK K
            refine norm_ (a' := ?_) ?_ ?_
            rotate_left
            · show Act.put _ (some 56) _ = _
              simp only [Act.put, sa, sz, ss, i64_w, i32_w]
              rfl
            clear hb7
            refine pure_ (i := 3) (N := some 57) (v := ?_) (a' := ?_) (bb 28 15) rfl rfl (by kernel_rfl) (fun _ _ _ h => h) (Or.inl ⟨by rfl, ?_⟩) ?_ ?_
            rotate_left
            · intro w'
              go_simp
              with_reducible rfl
            rotate_left
            · simp only [Act.put, sa, sz, ss, i64_w, i32_w]
              rfl
            refine pure_ (i := 4) (N := some 58) (v := ?_) (a' := ?_) (bb 28 31) rfl rfl (by kernel_rfl) (fun _ _ _ h => h) (Or.inl ⟨by rfl, ?_⟩) ?_ ?_
            rotate_left
            · intro w'
              go_simp
              with_reducible rfl
            rotate_left
            · simp only [Act.put, sa, sz, ss, i64_w, i32_w]
              rfl
            refine pure_ (i := 5) (N := some 59) (v := ?_) (a' := ?_) (bb 28 63) rfl rfl (by kernel_rfl) (fun _ _ _ h => h) (Or.inl ⟨by rfl, ?_⟩) ?_ ?_
            rotate_left
            · intro w'
              go_simp
              with_reducible rfl
            rotate_left
            · simp only [Act.put, sa, sz, ss, i64_w, i32_w]
              rfl
            refine pure_ (i := 6) (N := some 60) (v := ?_) (a' := ?_) (bb 28 127) rfl rfl (by kernel_rfl) (fun _ _ _ h => h) (Or.inl ⟨by rfl, ?_⟩) ?_ ?_
            rotate_left
            · intro w'
              go_simp
              with_reducible rfl
            rotate_left
            · simp only [Act.put, sa, sz, ss, i64_w, i32_w]
              rfl
            refine pure_ (i := 7) (N := some 61) (v := ?_) (a' := ?_) (bb 28 255) rfl rfl (by kernel_rfl) (fun _ _ _ h => h) (Or.inl ⟨by rfl, ?_⟩) ?_ ?_
            rotate_left
            · intro w'
              go_simp
              with_reducible rfl
            rotate_left
            · simp only [Act.put, sa, sz, ss, i64_w, i32_w]
              rfl
            refine pure_ (i := 8) (N := some 62) (v := ?_) (a' := ?_) (bb 28 511) rfl rfl (by kernel_rfl) (fun _ _ _ h => h) (Or.inl ⟨by rfl, ?_⟩) ?_ ?_
            rotate_left
            · intro w'
              go_simp
              with_reducible rfl
            rotate_left
            · simp only [Act.put, sa, sz, ss, i64_w, i32_w]
              rfl
            refine take_ (i := 9) (N := some 63) (v := ?_) (a' := ?_) (bb 28 1023) rfl rfl (by kernel_rfl) (fun _ _ _ h => h) (Or.inl ⟨by rfl, ?_⟩) hHeld ?_ ?_
            rotate_left
            · rintro w' ⟨s1_, s2_, s3_, s4_⟩
              go_simp
              with_reducible rfl
            rotate_left
            · simp only [Act.put, sa, sz, ss, i64_w, i32_w]
              rfl
            refine pure_ (i := 10) (N := some 64) (v := ?_) (a' := ?_) (bb 28 2047) rfl rfl (by kernel_rfl) (fun _ _ _ h => h) (Or.inl ⟨by rfl, ?_⟩) ?_ ?_
            rotate_left
            · intro w'
              go_simp
              with_reducible rfl
            rotate_left
            · simp only [Act.put, sa, sz, ss, i64_w, i32_w]
              rfl
            refine pure_ (i := 11) (N := some 65) (v := ?_) (a' := ?_) (bb 28 4095) rfl rfl (by kernel_rfl) (fun _ _ _ h => h) (Or.inl ⟨by rfl, ?_⟩) ?_ ?_
            rotate_left
            · intro w'
              go_simp
              with_reducible rfl
            rotate_left
            · simp only [Act.put, sa, sz, ss, i64_w, i32_w]
              rfl
            refine pure_ (i := 12) (N := some 66) (v := ?_) (a' := ?_) (bb 28 8191) rfl rfl (by kernel_rfl) (fun _ _ _ h => h) (Or.inl ⟨by rfl, ?_⟩) ?_ ?_
            rotate_left
            · intro w'
              go_simp
              with_reducible rfl
            rotate_left
            · simp only [Act.put, sa, sz, ss, i64_w, i32_w]
              rfl
            refine pure_ (i := 13) (N := some 67) (v := ?_) (a' := ?_) (bb 28 16383) rfl rfl (by kernel_rfl) (fun _ _ _ h => h) (Or.inl ⟨by rfl, ?_⟩) ?_ ?_
            rotate_left
            · intro w'
              go_simp
              with_reducible rfl
            rotate_left
            · simp only [Act.put, sa, sz, ss, i64_w, i32_w]
              rfl
            refine take_ (i := 14) (N := some 68) (v := ?_) (a' := ?_) (bb 28 32767) rfl rfl (by kernel_rfl) (fun _ _ _ h => h) (Or.inl ⟨by rfl, ?_⟩) hHeld ?_ ?_
            rotate_left
            · rintro w' ⟨s1_, s2_, s3_, s4_⟩
              go_simp
              with_reducible rfl
            rotate_left
            · simp only [Act.put, sa, sz, ss, i64_w, i32_w]
              rfl
            refine pure_ (i := 15) (N := some 69) (v := ?_) (a' := ?_) (bb 28 65535) rfl rfl (by kernel_rfl) (fun _ _ _ h => h) (Or.inl ⟨by rfl, ?_⟩) ?_ ?_
            rotate_left
            · intro w'
              go_simp
              with_reducible rfl
            rotate_left
            · simp only [Act.put, sa, sz, ss, i64_w, i32_w]
              rfl
            refine take_ (i := 16) (N := some 70) (v := ?_) (a' := ?_) (bb 28 131071) rfl rfl (by kernel_rfl) (fun _ _ _ h => h) (Or.inl ⟨by rfl, ?_⟩) hHeld ?_ ?_
            rotate_left
            · rintro w' ⟨s1_, s2_, s3_, s4_⟩
              go_simp
              with_reducible rfl
            rotate_left
            · simp only [Act.put, sa, sz, ss, i64_w, i32_w]
              rfl
            refine pure_ (i := 17) (N := some 71) (v := ?_) (a' := ?_) (bb 28 262143) rfl rfl (by kernel_rfl) (fun _ _ _ h => h) (Or.inl ⟨by rfl, ?_⟩) ?_ ?_
            rotate_left
            · intro w'
              go_simp
              with_reducible rfl
            rotate_left
            · simp only [Act.put, sa, sz, ss, i64_w, i32_w]
              rfl
            refine pure_ (i := 18) (N := some 72) (v := ?_) (a' := ?_) (bb 28 524287) rfl rfl (by kernel_rfl) (fun _ _ _ h => h) (Or.inl ⟨by rfl, ?_⟩) ?_ ?_
            rotate_left
            · intro w'
              go_simp
              with_reducible rfl
            rotate_left
            · simp only [Act.put, sa, sz, ss, i64_w, i32_w]
              rfl
            refine pure_ (i := 19) (N := some 73) (v := ?_) (a' := ?_) (bb 28 1048575) rfl rfl (by kernel_rfl) (fun _ _ _ h => h) (Or.inl ⟨by rfl, ?_⟩) ?_ ?_
            rotate_left
            · intro w'
              go_simp
              with_reducible rfl
            rotate_left
            · simp only [Act.put, sa, sz, ss, i64_w, i32_w]
              rfl
            refine pure_ (i := 20) (N := some 74) (v := ?_) (a' := ?_) (bb 28 2097151) rfl rfl (by kernel_rfl) (fun _ _ _ h => h) (Or.inl ⟨by rfl, ?_⟩) ?_ ?_
            rotate_left
            · intro w'
              go_simp
              with_reducible rfl
            rotate_left
            · simp only [Act.put, sa, sz, ss, i64_w, i32_w]
              rfl
            refine pure_ (i := 21) (N := some 75) (v := ?_) (a' := ?_) (bb 28 4194303) rfl rfl (by kernel_rfl) (fun _ _ _ h => h) (Or.inl ⟨by rfl, ?_⟩) ?_ ?_
            rotate_left
            · intro w'
              go_simp
              with_reducible rfl
            rotate_left
            · simp only [Act.put, sa, sz, ss, i64_w, i32_w]
              rfl
            refine pure_ (i := 22) (N := some 76) (v := ?_) (a' := ?_) (bb 28 8388607) rfl rfl (by kernel_rfl) (fun _ _ _ h => h) (Or.inl ⟨by rfl, ?_⟩) ?_ ?_
            rotate_left
            · intro w'
              go_simp
              with_reducible rfl
            rotate_left
            · simp only [Act.put, sa, sz, ss, i64_w, i32_w]
              rfl
            refine pure_ (i := 23) (N := some 77) (v := ?_) (a' := ?_) (bb 28 16777215) rfl rfl (by kernel_rfl) (fun _ _ _ h => h) (Or.inl ⟨by rfl, ?_⟩) ?_ ?_
            rotate_left
            · intro w'
              go_simp
              with_reducible rfl
            rotate_left
            · simp only [Act.put, sa, sz, ss, i64_w, i32_w]
              rfl
            refine pure_ (i := 24) (N := some 78) (v := ?_) (a' := ?_) (bb 28 33554431) rfl rfl (by kernel_rfl) (fun _ _ _ h => h) (Or.inl ⟨by rfl, ?_⟩) ?_ ?_
            rotate_left
            · intro w'
              go_simp
              with_reducible rfl
            rotate_left
            · simp only [Act.put, sa, sz, ss, i64_w, i32_w]
              rfl
            refine pure_ (i := 25) (N := some 79) (v := ?_) (a' := ?_) (bb 28 67108863) rfl rfl (by kernel_rfl) (fun _ _ _ h => h) (Or.inl ⟨by rfl, ?_⟩) ?_ ?_
            rotate_left
            · intro w'
              go_simp
              with_reducible rfl
            rotate_left
            · simp only [Act.put, sa, sz, ss, i64_w, i32_w]
              rfl
            refine pure_ (i := 26) (N := some 80) (v := ?_) (a' := ?_) (bb 28 134217727) rfl rfl (by kernel_rfl) (fun _ _ _ h => h) (Or.inl ⟨by rfl, ?_⟩) ?_ ?_
            rotate_left
            · intro w'
              go_simp
              with_reducible rfl
            rotate_left
            · simp only [Act.put, sa, sz, ss, i64_w, i32_w]
              rfl
            refine pure_ (i := 27) (N := some 81) (v := ?_) (a' := ?_) (bb 28 268435455) rfl rfl (by kernel_rfl) (fun _ _ _ h => h) (Or.inl ⟨by rfl, ?_⟩) ?_ ?_
            rotate_left
            · intro w'
              go_simp
              with_reducible rfl
            rotate_left
            · simp only [Act.put, sa, sz, ss, i64_w, i32_w]
              rfl
            refine done_ (by kernel_rfl) ?_
            have HBE := Aside0.mk hHeld.2.2.2
            clear hHeld hS
            go_wp2
            go_ret
            exact may_no (fun h => absurd (h.2.1 k HKM.out) HBADL.out) (HB2.out.trans ((HBW6.out.trans (HBE.out.mono HBW6.out.size)).mono HB2.out.size))
          · have hge : Op.bytesLess k'.1.toList k.1.toList = false := by rw [less_before, ByteArray.toList_eq, ByteArray.toList_eq]; simpa using hbef
            have HBEF := Aside0.mk hbef
            clear hbef
            refine start_ (n := 28) (S := fun W' => W'.cell? ⟨xb, 0, none⟩ = some (.string k.1) ∧ W'.cell? ⟨wb, 2, none⟩ = some (.slice (some ⟨g5, o5, none⟩) l.length c) ∧ W'.cell? ⟨g5, o5 + i * 3, none⟩ = some (.string k'.1) ∧ Below w6.heap.size w6 W') (ds := []) #[false, false, false, false, false, false, false, false, false, false, false, false, false, false, false, false, false, false, false, false, false, false, false, false, false, false, false, false] (by kernel_rfl) rfl rfl hS (fun hHeld => ?_)
            refine pure_ (i := 0) (N := some 54) (v := ?_) (a' := ?_) (bb 28 1) rfl rfl (by kernel_rfl) (fun _ _ _ h => h) (Or.inl ⟨by rfl, ?_⟩) ?_ ?_
            rotate_left
            · intro w'
              go_simp
              with_reducible rfl
            rotate_left
            · simp only [Act.put, sa, sz, ss, i64_w, i32_w]
              rfl
            refine take_ (i := 1) (N := some 55) (v := ?_) (a' := ?_) (bb 28 3) rfl rfl (by kernel_rfl) (fun _ _ _ h => h) (Or.inl ⟨by rfl, ?_⟩) hHeld ?_ ?_
            rotate_left
            · rintro w' ⟨s1_, s2_, s3_, s4_⟩
              go_simp
              with_reducible rfl
            rotate_left
            · simp only [Act.put, sa, sz, ss, i64_w, i32_w]
              rfl
            refine one_ (i := 2) (N := some 56) (bb 28 7) rfl rfl (by kernel_rfl) (by decide) (fun K hK => ?_)
            skip
            refine goes_ Tryz.func81 (by kernel_rfl) rfl #[.string k.1] (by rfl) rfl rfl (by (simp only [List.map_toArray, List.map_cons, List.map_nil]); rfl) ?_
            refine (name_calls k.1 _).mono ?_
            rintro e_ w7 ⟨rfl, hb7⟩
            rw [HNAME.out]
            refine ⟨_, rfl, ?_⟩
            refine hK.out _ _ ⟨(hb7.cell (World.block_lt_of_cell? _ _ hHeld.1)).trans hHeld.1, (hb7.cell (World.block_lt_of_cell? _ _ hHeld.2.1)).trans hHeld.2.1, (hb7.cell (World.block_lt_of_cell? _ _ hHeld.2.2.1)).trans hHeld.2.2.1, hHeld.2.2.2.trans (hb7.mono hHeld.2.2.2.size)⟩ (fun hHeld => ?_)
            clear hK K
            refine norm_ (a' := ?_) ?_ ?_
            rotate_left
            · show Act.put _ (some 56) _ = _
              simp only [Act.put, sa, sz, ss, i64_w, i32_w]
              rfl
            clear hb7
            refine pure_ (i := 3) (N := some 57) (v := ?_) (a' := ?_) (bb 28 15) rfl rfl (by kernel_rfl) (fun _ _ _ h => h) (Or.inl ⟨by rfl, ?_⟩) ?_ ?_
            rotate_left
            · intro w'
              go_simp
              with_reducible rfl
            rotate_left
            · simp only [Act.put, sa, sz, ss, i64_w, i32_w]
              rfl
            refine pure_ (i := 4) (N := some 58) (v := ?_) (a' := ?_) (bb 28 31) rfl rfl (by kernel_rfl) (fun _ _ _ h => h) (Or.inl ⟨by rfl, ?_⟩) ?_ ?_
            rotate_left
            · intro w'
              go_simp
              with_reducible rfl
            rotate_left
            · simp only [Act.put, sa, sz, ss, i64_w, i32_w]
              rfl
            refine pure_ (i := 5) (N := some 59) (v := ?_) (a' := ?_) (bb 28 63) rfl rfl (by kernel_rfl) (fun _ _ _ h => h) (Or.inl ⟨by rfl, ?_⟩) ?_ ?_
            rotate_left
            · intro w'
              go_simp
              with_reducible rfl
            rotate_left
            · simp only [Act.put, sa, sz, ss, i64_w, i32_w]
              rfl
            refine pure_ (i := 6) (N := some 60) (v := ?_) (a' := ?_) (bb 28 127) rfl rfl (by kernel_rfl) (fun _ _ _ h => h) (Or.inl ⟨by rfl, ?_⟩) ?_ ?_
            rotate_left
            · intro w'
              go_simp
              with_reducible rfl
            rotate_left
            · simp only [Act.put, sa, sz, ss, i64_w, i32_w]
              rfl
            refine pure_ (i := 7) (N := some 61) (v := ?_) (a' := ?_) (bb 28 255) rfl rfl (by kernel_rfl) (fun _ _ _ h => h) (Or.inl ⟨by rfl, ?_⟩) ?_ ?_
            rotate_left
            · intro w'
              go_simp
              with_reducible rfl
            rotate_left
            · simp only [Act.put, sa, sz, ss, i64_w, i32_w]
              rfl
            refine pure_ (i := 8) (N := some 62) (v := ?_) (a' := ?_) (bb 28 511) rfl rfl (by kernel_rfl) (fun _ _ _ h => h) (Or.inl ⟨by rfl, ?_⟩) ?_ ?_
            rotate_left
            · intro w'
              go_simp
              with_reducible rfl
            rotate_left
            · simp only [Act.put, sa, sz, ss, i64_w, i32_w]
              rfl
            refine take_ (i := 9) (N := some 63) (v := ?_) (a' := ?_) (bb 28 1023) rfl rfl (by kernel_rfl) (fun _ _ _ h => h) (Or.inl ⟨by rfl, ?_⟩) hHeld ?_ ?_
            rotate_left
            · rintro w' ⟨s1_, s2_, s3_, s4_⟩
              go_simp
              with_reducible rfl
            rotate_left
            · simp only [Act.put, sa, sz, ss, i64_w, i32_w]
              rfl
            refine pure_ (i := 10) (N := some 64) (v := ?_) (a' := ?_) (bb 28 2047) rfl rfl (by kernel_rfl) (fun _ _ _ h => h) (Or.inl ⟨by rfl, ?_⟩) ?_ ?_
            rotate_left
            · intro w'
              go_simp
              with_reducible rfl
            rotate_left
            · simp only [Act.put, sa, sz, ss, i64_w, i32_w]
              rfl
            refine pure_ (i := 11) (N := some 65) (v := ?_) (a' := ?_) (bb 28 4095) rfl rfl (by kernel_rfl) (fun _ _ _ h => h) (Or.inl ⟨by rfl, ?_⟩) ?_ ?_
            rotate_left
            · intro w'
              go_simp
              with_reducible rfl
            rotate_left
            · simp only [Act.put, sa, sz, ss, i64_w, i32_w]
              rfl
            refine pure_ (i := 12) (N := some 66) (v := ?_) (a' := ?_) (bb 28 8191) rfl rfl (by kernel_rfl) (fun _ _ _ h => h) (Or.inl ⟨by rfl, ?_⟩) ?_ ?_
            rotate_left
            · intro w'
              go_simp
              with_reducible rfl
            rotate_left
            · simp only [Act.put, sa, sz, ss, i64_w, i32_w]
              rfl
            refine pure_ (i := 13) (N := some 67) (v := ?_) (a' := ?_) (bb 28 16383) rfl rfl (by kernel_rfl) (fun _ _ _ h => h) (Or.inl ⟨by rfl, ?_⟩) ?_ ?_
            rotate_left
            · intro w'
              go_simp
              with_reducible rfl
            rotate_left
            · simp only [Act.put, sa, sz, ss, i64_w, i32_w]
              rfl
            refine take_ (i := 14) (N := some 68) (v := ?_) (a' := ?_) (bb 28 32767) rfl rfl (by kernel_rfl) (fun _ _ _ h => h) (Or.inl ⟨by rfl, ?_⟩) hHeld ?_ ?_
            rotate_left
            · rintro w' ⟨s1_, s2_, s3_, s4_⟩
              go_simp
              with_reducible rfl
            rotate_left
            · simp only [Act.put, sa, sz, ss, i64_w, i32_w]
              rfl
            refine pure_ (i := 15) (N := some 69) (v := ?_) (a' := ?_) (bb 28 65535) rfl rfl (by kernel_rfl) (fun _ _ _ h => h) (Or.inl ⟨by rfl, ?_⟩) ?_ ?_
            rotate_left
            · intro w'
              go_simp
              with_reducible rfl
            rotate_left
            · simp only [Act.put, sa, sz, ss, i64_w, i32_w]
              rfl
            refine take_ (i := 16) (N := some 70) (v := ?_) (a' := ?_) (bb 28 131071) rfl rfl (by kernel_rfl) (fun _ _ _ h => h) (Or.inl ⟨by rfl, ?_⟩) hHeld ?_ ?_
            rotate_left
            · rintro w' ⟨s1_, s2_, s3_, s4_⟩
              go_simp
              with_reducible rfl
            rotate_left
            · simp only [Act.put, sa, sz, ss, i64_w, i32_w]
              rfl
            refine pure_ (i := 17) (N := some 71) (v := ?_) (a' := ?_) (bb 28 262143) rfl rfl (by kernel_rfl) (fun _ _ _ h => h) (Or.inl ⟨by rfl, ?_⟩) ?_ ?_
            rotate_left
            · intro w'
              go_simp
              with_reducible rfl
            rotate_left
            · simp only [Act.put, sa, sz, ss, i64_w, i32_w]
              rfl
            refine pure_ (i := 18) (N := some 72) (v := ?_) (a' := ?_) (bb 28 524287) rfl rfl (by kernel_rfl) (fun _ _ _ h => h) (Or.inl ⟨by rfl, ?_⟩) ?_ ?_
            rotate_left
            · intro w'
              go_simp
              with_reducible rfl
            rotate_left
            · simp only [Act.put, sa, sz, ss, i64_w, i32_w]
              rfl
            refine pure_ (i := 19) (N := some 73) (v := ?_) (a' := ?_) (bb 28 1048575) rfl rfl (by kernel_rfl) (fun _ _ _ h => h) (Or.inl ⟨by rfl, ?_⟩) ?_ ?_
            rotate_left
            · intro w'
              go_simp
              with_reducible rfl
            rotate_left
            · simp only [Act.put, sa, sz, ss, i64_w, i32_w]
              rfl
            refine pure_ (i := 20) (N := some 74) (v := ?_) (a' := ?_) (bb 28 2097151) rfl rfl (by kernel_rfl) (fun _ _ _ h => h) (Or.inl ⟨by rfl, ?_⟩) ?_ ?_
            rotate_left
            · intro w'
              go_simp
              with_reducible rfl
            rotate_left
            · simp only [Act.put, sa, sz, ss, i64_w, i32_w]
              rfl
            refine pure_ (i := 21) (N := some 75) (v := undef) (a' := ?_) (bb 28 4194303) rfl rfl (by kernel_rfl) (fun _ _ _ h => h) (Or.inr ⟨by rfl, rfl⟩) ?_ ?_
            rotate_left
            · simp only [Act.put, sa, sz, ss, i64_w, i32_w]
              rfl
            refine pure_ (i := 22) (N := some 76) (v := undef) (a' := ?_) (bb 28 8388607) rfl rfl (by kernel_rfl) (fun _ _ _ h => h) (Or.inr ⟨by rfl, rfl⟩) ?_ ?_
            rotate_left
            · simp only [Act.put, sa, sz, ss, i64_w, i32_w]
              rfl
            refine pure_ (i := 23) (N := some 77) (v := undef) (a' := ?_) (bb 28 16777215) rfl rfl (by kernel_rfl) (fun _ _ _ h => h) (Or.inr ⟨by rfl, rfl⟩) ?_ ?_
            rotate_left
            · simp only [Act.put, sa, sz, ss, i64_w, i32_w]
              rfl
            refine pure_ (i := 24) (N := some 78) (v := undef) (a' := ?_) (bb 28 33554431) rfl rfl (by kernel_rfl) (fun _ _ _ h => h) (Or.inr ⟨by rfl, rfl⟩) ?_ ?_
            rotate_left
            · simp only [Act.put, sa, sz, ss, i64_w, i32_w]
              rfl
            refine pure_ (i := 25) (N := some 79) (v := undef) (a' := ?_) (bb 28 67108863) rfl rfl (by kernel_rfl) (fun _ _ _ h => h) (Or.inr ⟨by rfl, rfl⟩) ?_ ?_
            rotate_left
            · simp only [Act.put, sa, sz, ss, i64_w, i32_w]
              rfl
            refine pure_ (i := 26) (N := some 80) (v := undef) (a' := ?_) (bb 28 134217727) rfl rfl (by kernel_rfl) (fun _ _ _ h => h) (Or.inr ⟨by rfl, rfl⟩) ?_ ?_
            rotate_left
            · simp only [Act.put, sa, sz, ss, i64_w, i32_w]
              rfl
            refine pure_ (i := 27) (N := some 81) (v := ?_) (a' := ?_) (bb 28 268435455) rfl rfl (by kernel_rfl) (fun _ _ _ h => h) (Or.inl ⟨by rfl, ?_⟩) ?_ ?_
            rotate_left
            · intro w'
              go_simp
              with_reducible rfl
            rotate_left
            · simp only [Act.put, sa, sz, ss, i64_w, i32_w]
              rfl
            refine done_ (by kernel_rfl) ?_
            have HBE := Aside0.mk hHeld.2.2.2
            clear hHeld hS
            go_wp2
            go_ret
            exact may_no (fun h => absurd (names_at h.2.2 HK'.out HKE.out (by have := HIJ.out; omega)) HBEF.out) (HB2.out.trans ((HBW6.out.trans (HBE.out.mono HBW6.out.size)).mono HB2.out.size))
      have g2 : (k.2.1 == 0) = false := by simpa using h0
      by_cases h1 : 1 < k.2.1
      · have g1 : decide (1 < k.2.1) = true := decide_eq_true h1
        by_cases hs0 : k.2.2 = ⟨#[]⟩
        · have HLINK : Aside0 ((k.2.1 = 0 ∧ (parseP k.2.2).2.2 = 0) ∨ (2 ≤ k.2.1 ∧ k.2.2 = ⟨#[]⟩)) := ⟨.inr ⟨by omega, hs0⟩⟩
          rw [hs0] at y2
          clear h0 h1 hs0
          go_upto_region 9 with (fail)
          clear y1 g1 g2
          by_cases hname : goodName k.1 = true
          rotate_left
          · have HNAME : Aside0 (goodName k.1 = false) := ⟨by simpa using hname⟩
            have HBADN := Aside0.mk hname
            clear hname
            have hS : w6.drew.cell? ⟨xb, 0, none⟩ = some (.string k.1) ∧ Below w6.heap.size w6 w6.drew := ⟨y0, below_drew (Below.refl _ _)⟩
            refine start_ (n := 28) (S := fun W' => W'.cell? ⟨xb, 0, none⟩ = some (.string k.1) ∧ Below w6.heap.size w6 W') (ds := []) #[false, false, false, false, false, false, false, false, false, false, false, false, false, false, false, false, false, false, false, false, false, false, false, false, false, false, false, false] (by kernel_rfl) rfl rfl hS (fun hHeld => ?_)
            refine pure_ (i := 0) (N := some 54) (v := ?_) (a' := ?_) (bb 28 1) rfl rfl (by kernel_rfl) (fun _ _ _ h => h) (Or.inl ⟨by rfl, ?_⟩) ?_ ?_
            rotate_left
            · intro w'
              go_simp
              with_reducible rfl
            rotate_left
            · simp only [Act.put, sa, sz, ss, i64_w, i32_w]
              rfl
            refine take_ (i := 1) (N := some 55) (v := ?_) (a' := ?_) (bb 28 3) rfl rfl (by kernel_rfl) (fun _ _ _ h => h) (Or.inl ⟨by rfl, ?_⟩) hHeld ?_ ?_
            rotate_left
            · rintro w' ⟨s1_, s2_⟩
              go_simp
              with_reducible rfl
            rotate_left
            · simp only [Act.put, sa, sz, ss, i64_w, i32_w]
              rfl
            refine one_ (i := 2) (N := some 56) (bb 28 7) rfl rfl (by kernel_rfl) (by decide) (fun K hK => ?_)
            skip
            refine goes_ Tryz.func81 (by kernel_rfl) rfl #[.string k.1] (by rfl) rfl rfl (by (simp only [List.map_toArray, List.map_cons, List.map_nil]); rfl) ?_
            refine (name_calls k.1 _).mono ?_
            rintro e_ w7 ⟨rfl, hb7⟩
            rw [HNAME.out]
            refine ⟨_, rfl, ?_⟩
            refine hK.out _ _ ⟨(hb7.cell (World.block_lt_of_cell? _ _ hHeld.1)).trans hHeld.1, hHeld.2.trans (hb7.mono hHeld.2.size)⟩ (fun hHeld => ?_)
            clear hK K
            refine norm_ (a' := ?_) ?_ ?_
            rotate_left
            · show Act.put _ (some 56) _ = _
              simp only [Act.put, sa, sz, ss, i64_w, i32_w]
              rfl
            clear hb7
            refine pure_ (i := 3) (N := some 57) (v := ?_) (a' := ?_) (bb 28 15) rfl rfl (by kernel_rfl) (fun _ _ _ h => h) (Or.inl ⟨by rfl, ?_⟩) ?_ ?_
            rotate_left
            · intro w'
              go_simp
              with_reducible rfl
            rotate_left
            · simp only [Act.put, sa, sz, ss, i64_w, i32_w]
              rfl
            refine pure_ (i := 4) (N := some 58) (v := ?_) (a' := ?_) (bb 28 31) rfl rfl (by kernel_rfl) (fun _ _ _ h => h) (Or.inl ⟨by rfl, ?_⟩) ?_ ?_
            rotate_left
            · intro w'
              go_simp
              with_reducible rfl
            rotate_left
            · simp only [Act.put, sa, sz, ss, i64_w, i32_w]
              rfl
            refine pure_ (i := 5) (N := some 59) (v := undef) (a' := ?_) (bb 28 63) rfl rfl (by kernel_rfl) (fun _ _ _ h => h) (Or.inr ⟨by rfl, rfl⟩) ?_ ?_
            rotate_left
            · simp only [Act.put, sa, sz, ss, i64_w, i32_w]
              rfl
            refine pure_ (i := 6) (N := some 60) (v := undef) (a' := ?_) (bb 28 127) rfl rfl (by kernel_rfl) (fun _ _ _ h => h) (Or.inr ⟨by rfl, rfl⟩) ?_ ?_
            rotate_left
            · simp only [Act.put, sa, sz, ss, i64_w, i32_w]
              rfl
            refine pure_ (i := 7) (N := some 61) (v := undef) (a' := ?_) (bb 28 255) rfl rfl (by kernel_rfl) (fun _ _ _ h => h) (Or.inr ⟨by rfl, rfl⟩) ?_ ?_
            rotate_left
            · simp only [Act.put, sa, sz, ss, i64_w, i32_w]
              rfl
            refine pure_ (i := 8) (N := some 62) (v := undef) (a' := ?_) (bb 28 511) rfl rfl (by kernel_rfl) (fun _ _ _ h => h) (Or.inr ⟨by rfl, rfl⟩) ?_ ?_
            rotate_left
            · simp only [Act.put, sa, sz, ss, i64_w, i32_w]
              rfl
            refine pure_ (i := 9) (N := some 63) (v := undef) (a' := ?_) (bb 28 1023) rfl rfl (by kernel_rfl) (fun _ _ _ h => h) (Or.inr ⟨by rfl, rfl⟩) ?_ ?_
            rotate_left
            · simp only [Act.put, sa, sz, ss, i64_w, i32_w]
              rfl
            refine pure_ (i := 10) (N := some 64) (v := undef) (a' := ?_) (bb 28 2047) rfl rfl (by kernel_rfl) (fun _ _ _ h => h) (Or.inr ⟨by rfl, rfl⟩) ?_ ?_
            rotate_left
            · simp only [Act.put, sa, sz, ss, i64_w, i32_w]
              rfl
            refine pure_ (i := 11) (N := some 65) (v := undef) (a' := ?_) (bb 28 4095) rfl rfl (by kernel_rfl) (fun _ _ _ h => h) (Or.inr ⟨by rfl, rfl⟩) ?_ ?_
            rotate_left
            · simp only [Act.put, sa, sz, ss, i64_w, i32_w]
              rfl
            refine pure_ (i := 12) (N := some 66) (v := undef) (a' := ?_) (bb 28 8191) rfl rfl (by kernel_rfl) (fun _ _ _ h => h) (Or.inr ⟨by rfl, rfl⟩) ?_ ?_
            rotate_left
            · simp only [Act.put, sa, sz, ss, i64_w, i32_w]
              rfl
            refine pure_ (i := 13) (N := some 67) (v := undef) (a' := ?_) (bb 28 16383) rfl rfl (by kernel_rfl) (fun _ _ _ h => h) (Or.inr ⟨by rfl, rfl⟩) ?_ ?_
            rotate_left
            · simp only [Act.put, sa, sz, ss, i64_w, i32_w]
              rfl
            refine pure_ (i := 14) (N := some 68) (v := undef) (a' := ?_) (bb 28 32767) rfl rfl (by kernel_rfl) (fun _ _ _ h => h) (Or.inr ⟨by rfl, rfl⟩) ?_ ?_
            rotate_left
            · simp only [Act.put, sa, sz, ss, i64_w, i32_w]
              rfl
            refine pure_ (i := 15) (N := some 69) (v := undef) (a' := ?_) (bb 28 65535) rfl rfl (by kernel_rfl) (fun _ _ _ h => h) (Or.inr ⟨by rfl, rfl⟩) ?_ ?_
            rotate_left
            · simp only [Act.put, sa, sz, ss, i64_w, i32_w]
              rfl
            refine pure_ (i := 16) (N := some 70) (v := undef) (a' := ?_) (bb 28 131071) rfl rfl (by kernel_rfl) (fun _ _ _ h => h) (Or.inr ⟨by rfl, rfl⟩) ?_ ?_
            rotate_left
            · simp only [Act.put, sa, sz, ss, i64_w, i32_w]
              rfl
            refine pure_ (i := 17) (N := some 71) (v := undef) (a' := ?_) (bb 28 262143) rfl rfl (by kernel_rfl) (fun _ _ _ h => h) (Or.inr ⟨by rfl, rfl⟩) ?_ ?_
            rotate_left
            · simp only [Act.put, sa, sz, ss, i64_w, i32_w]
              rfl
            refine pure_ (i := 18) (N := some 72) (v := undef) (a' := ?_) (bb 28 524287) rfl rfl (by kernel_rfl) (fun _ _ _ h => h) (Or.inr ⟨by rfl, rfl⟩) ?_ ?_
            rotate_left
            · simp only [Act.put, sa, sz, ss, i64_w, i32_w]
              rfl
            refine pure_ (i := 19) (N := some 73) (v := ?_) (a' := ?_) (bb 28 1048575) rfl rfl (by kernel_rfl) (fun _ _ _ h => h) (Or.inl ⟨by rfl, ?_⟩) ?_ ?_
            rotate_left
            · intro w'
              go_simp
              with_reducible rfl
            rotate_left
            · simp only [Act.put, sa, sz, ss, i64_w, i32_w]
              rfl
            refine pure_ (i := 20) (N := some 74) (v := ?_) (a' := ?_) (bb 28 2097151) rfl rfl (by kernel_rfl) (fun _ _ _ h => h) (Or.inl ⟨by rfl, ?_⟩) ?_ ?_
            rotate_left
            · intro w'
              go_simp
              with_reducible rfl
            rotate_left
            · simp only [Act.put, sa, sz, ss, i64_w, i32_w]
              rfl
            refine pure_ (i := 21) (N := some 75) (v := undef) (a' := ?_) (bb 28 4194303) rfl rfl (by kernel_rfl) (fun _ _ _ h => h) (Or.inr ⟨by rfl, rfl⟩) ?_ ?_
            rotate_left
            · simp only [Act.put, sa, sz, ss, i64_w, i32_w]
              rfl
            refine pure_ (i := 22) (N := some 76) (v := undef) (a' := ?_) (bb 28 8388607) rfl rfl (by kernel_rfl) (fun _ _ _ h => h) (Or.inr ⟨by rfl, rfl⟩) ?_ ?_
            rotate_left
            · simp only [Act.put, sa, sz, ss, i64_w, i32_w]
              rfl
            refine pure_ (i := 23) (N := some 77) (v := undef) (a' := ?_) (bb 28 16777215) rfl rfl (by kernel_rfl) (fun _ _ _ h => h) (Or.inr ⟨by rfl, rfl⟩) ?_ ?_
            rotate_left
            · simp only [Act.put, sa, sz, ss, i64_w, i32_w]
              rfl
            refine pure_ (i := 24) (N := some 78) (v := undef) (a' := ?_) (bb 28 33554431) rfl rfl (by kernel_rfl) (fun _ _ _ h => h) (Or.inr ⟨by rfl, rfl⟩) ?_ ?_
            rotate_left
            · simp only [Act.put, sa, sz, ss, i64_w, i32_w]
              rfl
            refine pure_ (i := 25) (N := some 79) (v := undef) (a' := ?_) (bb 28 67108863) rfl rfl (by kernel_rfl) (fun _ _ _ h => h) (Or.inr ⟨by rfl, rfl⟩) ?_ ?_
            rotate_left
            · simp only [Act.put, sa, sz, ss, i64_w, i32_w]
              rfl
            refine pure_ (i := 26) (N := some 80) (v := undef) (a' := ?_) (bb 28 134217727) rfl rfl (by kernel_rfl) (fun _ _ _ h => h) (Or.inr ⟨by rfl, rfl⟩) ?_ ?_
            rotate_left
            · simp only [Act.put, sa, sz, ss, i64_w, i32_w]
              rfl
            refine pure_ (i := 27) (N := some 81) (v := ?_) (a' := ?_) (bb 28 268435455) rfl rfl (by kernel_rfl) (fun _ _ _ h => h) (Or.inl ⟨by rfl, ?_⟩) ?_ ?_
            rotate_left
            · intro w'
              go_simp
              with_reducible rfl
            rotate_left
            · simp only [Act.put, sa, sz, ss, i64_w, i32_w]
              rfl
            refine done_ (by kernel_rfl) ?_
            have HBE := Aside0.mk hHeld.2
            clear hHeld hS
            go_wp2
            go_ret
            exact may_no (fun h => absurd (h.2.1 k HKM.out).1 HBADN.out) (HB2.out.trans ((HBW6.out.trans (HBE.out.mono HBW6.out.size)).mono HB2.out.size))
          have HNAME := Aside0.mk hname
          clear hname
          by_cases hj0 : j = 0
          · have t1 : decide (0 < jv) = false := decide_eq_false (by have := HJV.out; omega)
            have hS : w6.drew.cell? ⟨xb, 0, none⟩ = some (.string k.1) ∧ Below w6.heap.size w6 w6.drew := ⟨y0, below_drew (Below.refl _ _)⟩
            refine start_ (n := 28) (S := fun W' => W'.cell? ⟨xb, 0, none⟩ = some (.string k.1) ∧ Below w6.heap.size w6 W') (ds := []) #[false, false, false, false, false, false, false, false, false, false, false, false, false, false, false, false, false, false, false, false, false, false, false, false, false, false, false, false] (by kernel_rfl) rfl rfl hS (fun hHeld => ?_)
            refine pure_ (i := 0) (N := some 54) (v := ?_) (a' := ?_) (bb 28 1) rfl rfl (by kernel_rfl) (fun _ _ _ h => h) (Or.inl ⟨by rfl, ?_⟩) ?_ ?_
            rotate_left
            · intro w'
              go_simp
              with_reducible rfl
            rotate_left
            · simp only [Act.put, sa, sz, ss, i64_w, i32_w]
              rfl
            refine take_ (i := 1) (N := some 55) (v := ?_) (a' := ?_) (bb 28 3) rfl rfl (by kernel_rfl) (fun _ _ _ h => h) (Or.inl ⟨by rfl, ?_⟩) hHeld ?_ ?_
            rotate_left
            · rintro w' ⟨s1_, s2_⟩
              go_simp
              with_reducible rfl
            rotate_left
            · simp only [Act.put, sa, sz, ss, i64_w, i32_w]
              rfl
            refine one_ (i := 2) (N := some 56) (bb 28 7) rfl rfl (by kernel_rfl) (by decide) (fun K hK => ?_)
            skip
            refine goes_ Tryz.func81 (by kernel_rfl) rfl #[.string k.1] (by rfl) rfl rfl (by (simp only [List.map_toArray, List.map_cons, List.map_nil]); rfl) ?_
            refine (name_calls k.1 _).mono ?_
            rintro e_ w7 ⟨rfl, hb7⟩
            rw [HNAME.out]
            refine ⟨_, rfl, ?_⟩
            refine hK.out _ _ ⟨(hb7.cell (World.block_lt_of_cell? _ _ hHeld.1)).trans hHeld.1, hHeld.2.trans (hb7.mono hHeld.2.size)⟩ (fun hHeld => ?_)
            clear hK K
            refine norm_ (a' := ?_) ?_ ?_
            rotate_left
            · show Act.put _ (some 56) _ = _
              simp only [Act.put, sa, sz, ss, i64_w, i32_w]
              rfl
            clear hb7
            refine pure_ (i := 3) (N := some 57) (v := ?_) (a' := ?_) (bb 28 15) rfl rfl (by kernel_rfl) (fun _ _ _ h => h) (Or.inl ⟨by rfl, ?_⟩) ?_ ?_
            rotate_left
            · intro w'
              go_simp
              with_reducible rfl
            rotate_left
            · simp only [Act.put, sa, sz, ss, i64_w, i32_w]
              rfl
            refine pure_ (i := 4) (N := some 58) (v := ?_) (a' := ?_) (bb 28 31) rfl rfl (by kernel_rfl) (fun _ _ _ h => h) (Or.inl ⟨by rfl, ?_⟩) ?_ ?_
            rotate_left
            · intro w'
              go_simp
              with_reducible rfl
            rotate_left
            · simp only [Act.put, sa, sz, ss, i64_w, i32_w]
              rfl
            refine pure_ (i := 5) (N := some 59) (v := ?_) (a' := ?_) (bb 28 63) rfl rfl (by kernel_rfl) (fun _ _ _ h => h) (Or.inl ⟨by rfl, ?_⟩) ?_ ?_
            rotate_left
            · intro w'
              go_simp
              with_reducible rfl
            rotate_left
            · simp only [Act.put, sa, sz, ss, i64_w, i32_w]
              rfl
            refine pure_ (i := 6) (N := some 60) (v := ?_) (a' := ?_) (bb 28 127) rfl rfl (by kernel_rfl) (fun _ _ _ h => h) (Or.inl ⟨by rfl, ?_⟩) ?_ ?_
            rotate_left
            · intro w'
              go_simp
              with_reducible rfl
            rotate_left
            · simp only [Act.put, sa, sz, ss, i64_w, i32_w]
              rfl
            refine pure_ (i := 7) (N := some 61) (v := ?_) (a' := ?_) (bb 28 255) rfl rfl (by kernel_rfl) (fun _ _ _ h => h) (Or.inl ⟨by rfl, ?_⟩) ?_ ?_
            rotate_left
            · intro w'
              go_simp
              with_reducible rfl
            rotate_left
            · simp only [Act.put, sa, sz, ss, i64_w, i32_w]
              rfl
            refine pure_ (i := 8) (N := some 62) (v := undef) (a' := ?_) (bb 28 511) rfl rfl (by kernel_rfl) (fun _ _ _ h => h) (Or.inr ⟨by rfl, rfl⟩) ?_ ?_
            rotate_left
            · simp only [Act.put, sa, sz, ss, i64_w, i32_w]
              rfl
            refine pure_ (i := 9) (N := some 63) (v := undef) (a' := ?_) (bb 28 1023) rfl rfl (by kernel_rfl) (fun _ _ _ h => h) (Or.inr ⟨by rfl, rfl⟩) ?_ ?_
            rotate_left
            · simp only [Act.put, sa, sz, ss, i64_w, i32_w]
              rfl
            refine pure_ (i := 10) (N := some 64) (v := undef) (a' := ?_) (bb 28 2047) rfl rfl (by kernel_rfl) (fun _ _ _ h => h) (Or.inr ⟨by rfl, rfl⟩) ?_ ?_
            rotate_left
            · simp only [Act.put, sa, sz, ss, i64_w, i32_w]
              rfl
            refine pure_ (i := 11) (N := some 65) (v := undef) (a' := ?_) (bb 28 4095) rfl rfl (by kernel_rfl) (fun _ _ _ h => h) (Or.inr ⟨by rfl, rfl⟩) ?_ ?_
            rotate_left
            · simp only [Act.put, sa, sz, ss, i64_w, i32_w]
              rfl
            refine pure_ (i := 12) (N := some 66) (v := undef) (a' := ?_) (bb 28 8191) rfl rfl (by kernel_rfl) (fun _ _ _ h => h) (Or.inr ⟨by rfl, rfl⟩) ?_ ?_
            rotate_left
            · simp only [Act.put, sa, sz, ss, i64_w, i32_w]
              rfl
            refine pure_ (i := 13) (N := some 67) (v := undef) (a' := ?_) (bb 28 16383) rfl rfl (by kernel_rfl) (fun _ _ _ h => h) (Or.inr ⟨by rfl, rfl⟩) ?_ ?_
            rotate_left
            · simp only [Act.put, sa, sz, ss, i64_w, i32_w]
              rfl
            refine pure_ (i := 14) (N := some 68) (v := undef) (a' := ?_) (bb 28 32767) rfl rfl (by kernel_rfl) (fun _ _ _ h => h) (Or.inr ⟨by rfl, rfl⟩) ?_ ?_
            rotate_left
            · simp only [Act.put, sa, sz, ss, i64_w, i32_w]
              rfl
            refine pure_ (i := 15) (N := some 69) (v := undef) (a' := ?_) (bb 28 65535) rfl rfl (by kernel_rfl) (fun _ _ _ h => h) (Or.inr ⟨by rfl, rfl⟩) ?_ ?_
            rotate_left
            · simp only [Act.put, sa, sz, ss, i64_w, i32_w]
              rfl
            refine pure_ (i := 16) (N := some 70) (v := undef) (a' := ?_) (bb 28 131071) rfl rfl (by kernel_rfl) (fun _ _ _ h => h) (Or.inr ⟨by rfl, rfl⟩) ?_ ?_
            rotate_left
            · simp only [Act.put, sa, sz, ss, i64_w, i32_w]
              rfl
            refine pure_ (i := 17) (N := some 71) (v := undef) (a' := ?_) (bb 28 262143) rfl rfl (by kernel_rfl) (fun _ _ _ h => h) (Or.inr ⟨by rfl, rfl⟩) ?_ ?_
            rotate_left
            · simp only [Act.put, sa, sz, ss, i64_w, i32_w]
              rfl
            refine pure_ (i := 18) (N := some 72) (v := ?_) (a' := ?_) (bb 28 524287) rfl rfl (by kernel_rfl) (fun _ _ _ h => h) (Or.inl ⟨by rfl, ?_⟩) ?_ ?_
            rotate_left
            · intro w'
              go_simp
              with_reducible rfl
            rotate_left
            · simp only [Act.put, sa, sz, ss, i64_w, i32_w]
              rfl
            refine pure_ (i := 19) (N := some 73) (v := ?_) (a' := ?_) (bb 28 1048575) rfl rfl (by kernel_rfl) (fun _ _ _ h => h) (Or.inl ⟨by rfl, ?_⟩) ?_ ?_
            rotate_left
            · intro w'
              go_simp
              with_reducible rfl
            rotate_left
            · simp only [Act.put, sa, sz, ss, i64_w, i32_w]
              rfl
            refine pure_ (i := 20) (N := some 74) (v := ?_) (a' := ?_) (bb 28 2097151) rfl rfl (by kernel_rfl) (fun _ _ _ h => h) (Or.inl ⟨by rfl, ?_⟩) ?_ ?_
            rotate_left
            · intro w'
              go_simp
              with_reducible rfl
            rotate_left
            · simp only [Act.put, sa, sz, ss, i64_w, i32_w]
              rfl
            refine pure_ (i := 21) (N := some 75) (v := ?_) (a' := ?_) (bb 28 4194303) rfl rfl (by kernel_rfl) (fun _ _ _ h => h) (Or.inl ⟨by rfl, ?_⟩) ?_ ?_
            rotate_left
            · intro w'
              go_simp
              with_reducible rfl
            rotate_left
            · simp only [Act.put, sa, sz, ss, i64_w, i32_w]
              rfl
            refine pure_ (i := 22) (N := some 76) (v := ?_) (a' := ?_) (bb 28 8388607) rfl rfl (by kernel_rfl) (fun _ _ _ h => h) (Or.inl ⟨by rfl, ?_⟩) ?_ ?_
            rotate_left
            · intro w'
              go_simp
              with_reducible rfl
            rotate_left
            · simp only [Act.put, sa, sz, ss, i64_w, i32_w]
              rfl
            refine pure_ (i := 23) (N := some 77) (v := ?_) (a' := ?_) (bb 28 16777215) rfl rfl (by kernel_rfl) (fun _ _ _ h => h) (Or.inl ⟨by rfl, ?_⟩) ?_ ?_
            rotate_left
            · intro w'
              go_simp
              with_reducible rfl
            rotate_left
            · simp only [Act.put, sa, sz, ss, i64_w, i32_w]
              rfl
            refine pure_ (i := 24) (N := some 78) (v := ?_) (a' := ?_) (bb 28 33554431) rfl rfl (by kernel_rfl) (fun _ _ _ h => h) (Or.inl ⟨by rfl, ?_⟩) ?_ ?_
            rotate_left
            · intro w'
              go_simp
              with_reducible rfl
            rotate_left
            · simp only [Act.put, sa, sz, ss, i64_w, i32_w]
              rfl
            refine pure_ (i := 25) (N := some 79) (v := ?_) (a' := ?_) (bb 28 67108863) rfl rfl (by kernel_rfl) (fun _ _ _ h => h) (Or.inl ⟨by rfl, ?_⟩) ?_ ?_
            rotate_left
            · intro w'
              go_simp
              with_reducible rfl
            rotate_left
            · simp only [Act.put, sa, sz, ss, i64_w, i32_w]
              rfl
            refine pure_ (i := 26) (N := some 80) (v := ?_) (a' := ?_) (bb 28 134217727) rfl rfl (by kernel_rfl) (fun _ _ _ h => h) (Or.inl ⟨by rfl, ?_⟩) ?_ ?_
            rotate_left
            · intro w'
              go_simp
              with_reducible rfl
            rotate_left
            · simp only [Act.put, sa, sz, ss, i64_w, i32_w]
              rfl
            refine pure_ (i := 27) (N := some 81) (v := ?_) (a' := ?_) (bb 28 268435455) rfl rfl (by kernel_rfl) (fun _ _ _ h => h) (Or.inl ⟨by rfl, ?_⟩) ?_ ?_
            rotate_left
            · intro w'
              go_simp
              with_reducible rfl
            rotate_left
            · simp only [Act.put, sa, sz, ss, i64_w, i32_w]
              rfl
            refine done_ (by kernel_rfl) ?_
            have HBE := Aside0.mk hHeld.2
            clear hHeld hS
            go_wp2
            clear q4
            go_roundg (gk - 1)
            case measure => have := HJ.out; have := HLT.out; omega
            case rel => exact ⟨j + 1, jv + 1, by first | rfl | rw [w1_], ⟨by have := HJV.out; omega⟩, ⟨by have := HLT.out; omega, by have := HJ.out; omega⟩, ⟨HBW6.out.trans (HBE.out.mono HBW6.out.size)⟩, ⟨by rw [HTK.out]; exact fun z hz => (List.mem_append.1 hz).elim (HLM.out z) (fun h => by rw [List.mem_singleton.1 h]; exact ⟨HNAME.out, HLINK.out⟩)⟩, ⟨by rw [HTK.out]; exact names_snoc HNM.out (fun m z hz hm => by have := (List.getElem?_eq_some_iff.1 hz).1; rw [hj0] at this; simp at this)⟩⟩
          obtain ⟨i, hi⟩ : ∃ i, j = i + 1 := ⟨j - 1, by omega⟩
          obtain ⟨k', hk'⟩ : ∃ k', l[i]? = some k' := ⟨_, List.getElem?_eq_getElem (by have := HLT.out; omega)⟩
          obtain ⟨g6, o6, hA6, -, x0, -, -⟩ := HR6.out.at hk'
          obtain ⟨rfl, rfl⟩ : g5 = g6 ∧ o5 = o6 := by simpa using hA6
          have HK' := Aside0.mk hk'
          have t1 : decide (0 < jv) = true := decide_eq_true (by have := HJV.out; omega)
          have v1 : (jv - 1).toNat = i := by have := HJV.out; omega
          have v2 : (0 : Int) ≤ jv - 1 := by have := HJV.out; omega
          have v3 : (1 : Int) ≤ jv := by omega
          have v4 : jv ≤ (l.length : Int) := by have := HJV.out; have := HLT.out; omega
          have v5 : (jv - 1 < (l.length : Int)) = True := eq_true (by omega)
          have v6 : ((0 : Int) ≤ jv - 1) = True := eq_true v2
          have v7 : ((1 : Int) ≤ jv) = True := eq_true v3
          have v8 : (jv ≤ (l.length : Int)) = True := eq_true v4
          have hS : w6.drew.cell? ⟨xb, 0, none⟩ = some (.string k.1) ∧ w6.drew.cell? ⟨wb, 2, none⟩ = some (.slice (some ⟨g5, o5, none⟩) l.length c) ∧ w6.drew.cell? ⟨g5, o5 + i * 3, none⟩ = some (.string k'.1) ∧ Below w6.heap.size w6 w6.drew := ⟨y0, p2, x0, below_drew (Below.refl _ _)⟩
          have HIJ := Aside0.mk hi
          clear hA6 hk' hj0 hi
          by_cases hbef : bytesBefore k'.1.data.toList k.1.data.toList = true
          · have hge : Op.bytesLess k'.1.toList k.1.toList = true := by rw [less_before, ByteArray.toList_eq, ByteArray.toList_eq, hbef]
            have HBEF := Aside0.mk hbef
            clear hbef
            refine start_ (n := 28) (S := fun W' => W'.cell? ⟨xb, 0, none⟩ = some (.string k.1) ∧ W'.cell? ⟨wb, 2, none⟩ = some (.slice (some ⟨g5, o5, none⟩) l.length c) ∧ W'.cell? ⟨g5, o5 + i * 3, none⟩ = some (.string k'.1) ∧ Below w6.heap.size w6 W') (ds := []) #[false, false, false, false, false, false, false, false, false, false, false, false, false, false, false, false, false, false, false, false, false, false, false, false, false, false, false, false] (by kernel_rfl) rfl rfl hS (fun hHeld => ?_)
            refine pure_ (i := 0) (N := some 54) (v := ?_) (a' := ?_) (bb 28 1) rfl rfl (by kernel_rfl) (fun _ _ _ h => h) (Or.inl ⟨by rfl, ?_⟩) ?_ ?_
            rotate_left
            · intro w'
              go_simp
              with_reducible rfl
            rotate_left
            · simp only [Act.put, sa, sz, ss, i64_w, i32_w]
              rfl
            refine take_ (i := 1) (N := some 55) (v := ?_) (a' := ?_) (bb 28 3) rfl rfl (by kernel_rfl) (fun _ _ _ h => h) (Or.inl ⟨by rfl, ?_⟩) hHeld ?_ ?_
            rotate_left
            · rintro w' ⟨s1_, s2_, s3_, s4_⟩
              go_simp
              with_reducible rfl
            rotate_left
            · simp only [Act.put, sa, sz, ss, i64_w, i32_w]
              rfl
            refine one_ (i := 2) (N := some 56) (bb 28 7) rfl rfl (by kernel_rfl) (by decide) (fun K hK => ?_)
            skip
            refine goes_ Tryz.func81 (by kernel_rfl) rfl #[.string k.1] (by rfl) rfl rfl (by (simp only [List.map_toArray, List.map_cons, List.map_nil]); rfl) ?_
            refine (name_calls k.1 _).mono ?_
            rintro e_ w7 ⟨rfl, hb7⟩
            rw [HNAME.out]
            refine ⟨_, rfl, ?_⟩
            refine hK.out _ _ ⟨(hb7.cell (World.block_lt_of_cell? _ _ hHeld.1)).trans hHeld.1, (hb7.cell (World.block_lt_of_cell? _ _ hHeld.2.1)).trans hHeld.2.1, (hb7.cell (World.block_lt_of_cell? _ _ hHeld.2.2.1)).trans hHeld.2.2.1, hHeld.2.2.2.trans (hb7.mono hHeld.2.2.2.size)⟩ (fun hHeld => ?_)
            clear hK K
            refine norm_ (a' := ?_) ?_ ?_
            rotate_left
            · show Act.put _ (some 56) _ = _
              simp only [Act.put, sa, sz, ss, i64_w, i32_w]
              rfl
            clear hb7
            refine pure_ (i := 3) (N := some 57) (v := ?_) (a' := ?_) (bb 28 15) rfl rfl (by kernel_rfl) (fun _ _ _ h => h) (Or.inl ⟨by rfl, ?_⟩) ?_ ?_
            rotate_left
            · intro w'
              go_simp
              with_reducible rfl
            rotate_left
            · simp only [Act.put, sa, sz, ss, i64_w, i32_w]
              rfl
            refine pure_ (i := 4) (N := some 58) (v := ?_) (a' := ?_) (bb 28 31) rfl rfl (by kernel_rfl) (fun _ _ _ h => h) (Or.inl ⟨by rfl, ?_⟩) ?_ ?_
            rotate_left
            · intro w'
              go_simp
              with_reducible rfl
            rotate_left
            · simp only [Act.put, sa, sz, ss, i64_w, i32_w]
              rfl
            refine pure_ (i := 5) (N := some 59) (v := ?_) (a' := ?_) (bb 28 63) rfl rfl (by kernel_rfl) (fun _ _ _ h => h) (Or.inl ⟨by rfl, ?_⟩) ?_ ?_
            rotate_left
            · intro w'
              go_simp
              with_reducible rfl
            rotate_left
            · simp only [Act.put, sa, sz, ss, i64_w, i32_w]
              rfl
            refine pure_ (i := 6) (N := some 60) (v := ?_) (a' := ?_) (bb 28 127) rfl rfl (by kernel_rfl) (fun _ _ _ h => h) (Or.inl ⟨by rfl, ?_⟩) ?_ ?_
            rotate_left
            · intro w'
              go_simp
              with_reducible rfl
            rotate_left
            · simp only [Act.put, sa, sz, ss, i64_w, i32_w]
              rfl
            refine pure_ (i := 7) (N := some 61) (v := ?_) (a' := ?_) (bb 28 255) rfl rfl (by kernel_rfl) (fun _ _ _ h => h) (Or.inl ⟨by rfl, ?_⟩) ?_ ?_
            rotate_left
            · intro w'
              go_simp
              with_reducible rfl
            rotate_left
            · simp only [Act.put, sa, sz, ss, i64_w, i32_w]
              rfl
            refine pure_ (i := 8) (N := some 62) (v := ?_) (a' := ?_) (bb 28 511) rfl rfl (by kernel_rfl) (fun _ _ _ h => h) (Or.inl ⟨by rfl, ?_⟩) ?_ ?_
            rotate_left
            · intro w'
              go_simp
              with_reducible rfl
            rotate_left
            · simp only [Act.put, sa, sz, ss, i64_w, i32_w]
              rfl
            refine take_ (i := 9) (N := some 63) (v := ?_) (a' := ?_) (bb 28 1023) rfl rfl (by kernel_rfl) (fun _ _ _ h => h) (Or.inl ⟨by rfl, ?_⟩) hHeld ?_ ?_
            rotate_left
            · rintro w' ⟨s1_, s2_, s3_, s4_⟩
              go_simp
              with_reducible rfl
            rotate_left
            · simp only [Act.put, sa, sz, ss, i64_w, i32_w]
              rfl
            refine pure_ (i := 10) (N := some 64) (v := ?_) (a' := ?_) (bb 28 2047) rfl rfl (by kernel_rfl) (fun _ _ _ h => h) (Or.inl ⟨by rfl, ?_⟩) ?_ ?_
            rotate_left
            · intro w'
              go_simp
              with_reducible rfl
            rotate_left
            · simp only [Act.put, sa, sz, ss, i64_w, i32_w]
              rfl
            refine pure_ (i := 11) (N := some 65) (v := ?_) (a' := ?_) (bb 28 4095) rfl rfl (by kernel_rfl) (fun _ _ _ h => h) (Or.inl ⟨by rfl, ?_⟩) ?_ ?_
            rotate_left
            · intro w'
              go_simp
              with_reducible rfl
            rotate_left
            · simp only [Act.put, sa, sz, ss, i64_w, i32_w]
              rfl
            refine pure_ (i := 12) (N := some 66) (v := ?_) (a' := ?_) (bb 28 8191) rfl rfl (by kernel_rfl) (fun _ _ _ h => h) (Or.inl ⟨by rfl, ?_⟩) ?_ ?_
            rotate_left
            · intro w'
              go_simp
              with_reducible rfl
            rotate_left
            · simp only [Act.put, sa, sz, ss, i64_w, i32_w]
              rfl
            refine pure_ (i := 13) (N := some 67) (v := ?_) (a' := ?_) (bb 28 16383) rfl rfl (by kernel_rfl) (fun _ _ _ h => h) (Or.inl ⟨by rfl, ?_⟩) ?_ ?_
            rotate_left
            · intro w'
              go_simp
              with_reducible rfl
            rotate_left
            · simp only [Act.put, sa, sz, ss, i64_w, i32_w]
              rfl
            refine take_ (i := 14) (N := some 68) (v := ?_) (a' := ?_) (bb 28 32767) rfl rfl (by kernel_rfl) (fun _ _ _ h => h) (Or.inl ⟨by rfl, ?_⟩) hHeld ?_ ?_
            rotate_left
            · rintro w' ⟨s1_, s2_, s3_, s4_⟩
              go_simp
              with_reducible rfl
            rotate_left
            · simp only [Act.put, sa, sz, ss, i64_w, i32_w]
              rfl
            refine pure_ (i := 15) (N := some 69) (v := ?_) (a' := ?_) (bb 28 65535) rfl rfl (by kernel_rfl) (fun _ _ _ h => h) (Or.inl ⟨by rfl, ?_⟩) ?_ ?_
            rotate_left
            · intro w'
              go_simp
              with_reducible rfl
            rotate_left
            · simp only [Act.put, sa, sz, ss, i64_w, i32_w]
              rfl
            refine take_ (i := 16) (N := some 70) (v := ?_) (a' := ?_) (bb 28 131071) rfl rfl (by kernel_rfl) (fun _ _ _ h => h) (Or.inl ⟨by rfl, ?_⟩) hHeld ?_ ?_
            rotate_left
            · rintro w' ⟨s1_, s2_, s3_, s4_⟩
              go_simp
              with_reducible rfl
            rotate_left
            · simp only [Act.put, sa, sz, ss, i64_w, i32_w]
              rfl
            refine pure_ (i := 17) (N := some 71) (v := ?_) (a' := ?_) (bb 28 262143) rfl rfl (by kernel_rfl) (fun _ _ _ h => h) (Or.inl ⟨by rfl, ?_⟩) ?_ ?_
            rotate_left
            · intro w'
              go_simp
              with_reducible rfl
            rotate_left
            · simp only [Act.put, sa, sz, ss, i64_w, i32_w]
              rfl
            refine pure_ (i := 18) (N := some 72) (v := ?_) (a' := ?_) (bb 28 524287) rfl rfl (by kernel_rfl) (fun _ _ _ h => h) (Or.inl ⟨by rfl, ?_⟩) ?_ ?_
            rotate_left
            · intro w'
              go_simp
              with_reducible rfl
            rotate_left
            · simp only [Act.put, sa, sz, ss, i64_w, i32_w]
              rfl
            refine pure_ (i := 19) (N := some 73) (v := ?_) (a' := ?_) (bb 28 1048575) rfl rfl (by kernel_rfl) (fun _ _ _ h => h) (Or.inl ⟨by rfl, ?_⟩) ?_ ?_
            rotate_left
            · intro w'
              go_simp
              with_reducible rfl
            rotate_left
            · simp only [Act.put, sa, sz, ss, i64_w, i32_w]
              rfl
            refine pure_ (i := 20) (N := some 74) (v := ?_) (a' := ?_) (bb 28 2097151) rfl rfl (by kernel_rfl) (fun _ _ _ h => h) (Or.inl ⟨by rfl, ?_⟩) ?_ ?_
            rotate_left
            · intro w'
              go_simp
              with_reducible rfl
            rotate_left
            · simp only [Act.put, sa, sz, ss, i64_w, i32_w]
              rfl
            refine pure_ (i := 21) (N := some 75) (v := ?_) (a' := ?_) (bb 28 4194303) rfl rfl (by kernel_rfl) (fun _ _ _ h => h) (Or.inl ⟨by rfl, ?_⟩) ?_ ?_
            rotate_left
            · intro w'
              go_simp
              with_reducible rfl
            rotate_left
            · simp only [Act.put, sa, sz, ss, i64_w, i32_w]
              rfl
            refine pure_ (i := 22) (N := some 76) (v := ?_) (a' := ?_) (bb 28 8388607) rfl rfl (by kernel_rfl) (fun _ _ _ h => h) (Or.inl ⟨by rfl, ?_⟩) ?_ ?_
            rotate_left
            · intro w'
              go_simp
              with_reducible rfl
            rotate_left
            · simp only [Act.put, sa, sz, ss, i64_w, i32_w]
              rfl
            refine pure_ (i := 23) (N := some 77) (v := ?_) (a' := ?_) (bb 28 16777215) rfl rfl (by kernel_rfl) (fun _ _ _ h => h) (Or.inl ⟨by rfl, ?_⟩) ?_ ?_
            rotate_left
            · intro w'
              go_simp
              with_reducible rfl
            rotate_left
            · simp only [Act.put, sa, sz, ss, i64_w, i32_w]
              rfl
            refine pure_ (i := 24) (N := some 78) (v := ?_) (a' := ?_) (bb 28 33554431) rfl rfl (by kernel_rfl) (fun _ _ _ h => h) (Or.inl ⟨by rfl, ?_⟩) ?_ ?_
            rotate_left
            · intro w'
              go_simp
              with_reducible rfl
            rotate_left
            · simp only [Act.put, sa, sz, ss, i64_w, i32_w]
              rfl
            refine pure_ (i := 25) (N := some 79) (v := ?_) (a' := ?_) (bb 28 67108863) rfl rfl (by kernel_rfl) (fun _ _ _ h => h) (Or.inl ⟨by rfl, ?_⟩) ?_ ?_
            rotate_left
            · intro w'
              go_simp
              with_reducible rfl
            rotate_left
            · simp only [Act.put, sa, sz, ss, i64_w, i32_w]
              rfl
            refine pure_ (i := 26) (N := some 80) (v := ?_) (a' := ?_) (bb 28 134217727) rfl rfl (by kernel_rfl) (fun _ _ _ h => h) (Or.inl ⟨by rfl, ?_⟩) ?_ ?_
            rotate_left
            · intro w'
              go_simp
              with_reducible rfl
            rotate_left
            · simp only [Act.put, sa, sz, ss, i64_w, i32_w]
              rfl
            refine pure_ (i := 27) (N := some 81) (v := ?_) (a' := ?_) (bb 28 268435455) rfl rfl (by kernel_rfl) (fun _ _ _ h => h) (Or.inl ⟨by rfl, ?_⟩) ?_ ?_
            rotate_left
            · intro w'
              go_simp
              with_reducible rfl
            rotate_left
            · simp only [Act.put, sa, sz, ss, i64_w, i32_w]
              rfl
            refine done_ (by kernel_rfl) ?_
            have HBE := Aside0.mk hHeld.2.2.2
            clear hHeld hS
            go_wp2
            clear q4
            go_roundg (gk - 1)
            case measure => have := HJ.out; have := HLT.out; omega
            case rel => exact ⟨j + 1, jv + 1, by first | rfl | rw [w1_], ⟨by have := HJV.out; omega⟩, ⟨by have := HLT.out; omega, by have := HJ.out; omega⟩, ⟨HBW6.out.trans (HBE.out.mono HBW6.out.size)⟩, ⟨by rw [HTK.out]; exact fun z hz => (List.mem_append.1 hz).elim (HLM.out z) (fun h => by rw [List.mem_singleton.1 h]; exact ⟨HNAME.out, HLINK.out⟩)⟩, ⟨by rw [HTK.out]; exact names_snoc HNM.out (fun m z hz hm => by
                  rw [List.length_take] at hm
                  have e1 : m = i := by have := HIJ.out; have := HLT.out; omega
                  rw [e1, List.getElem?_take_of_lt (by have := HIJ.out; omega), HK'.out] at hz
                  rw [← Option.some.inj hz]
                  exact HBEF.out)⟩⟩
          · have hge : Op.bytesLess k'.1.toList k.1.toList = false := by rw [less_before, ByteArray.toList_eq, ByteArray.toList_eq]; simpa using hbef
            have HBEF := Aside0.mk hbef
            clear hbef
            refine start_ (n := 28) (S := fun W' => W'.cell? ⟨xb, 0, none⟩ = some (.string k.1) ∧ W'.cell? ⟨wb, 2, none⟩ = some (.slice (some ⟨g5, o5, none⟩) l.length c) ∧ W'.cell? ⟨g5, o5 + i * 3, none⟩ = some (.string k'.1) ∧ Below w6.heap.size w6 W') (ds := []) #[false, false, false, false, false, false, false, false, false, false, false, false, false, false, false, false, false, false, false, false, false, false, false, false, false, false, false, false] (by kernel_rfl) rfl rfl hS (fun hHeld => ?_)
            refine pure_ (i := 0) (N := some 54) (v := ?_) (a' := ?_) (bb 28 1) rfl rfl (by kernel_rfl) (fun _ _ _ h => h) (Or.inl ⟨by rfl, ?_⟩) ?_ ?_
            rotate_left
            · intro w'
              go_simp
              with_reducible rfl
            rotate_left
            · simp only [Act.put, sa, sz, ss, i64_w, i32_w]
              rfl
            refine take_ (i := 1) (N := some 55) (v := ?_) (a' := ?_) (bb 28 3) rfl rfl (by kernel_rfl) (fun _ _ _ h => h) (Or.inl ⟨by rfl, ?_⟩) hHeld ?_ ?_
            rotate_left
            · rintro w' ⟨s1_, s2_, s3_, s4_⟩
              go_simp
              with_reducible rfl
            rotate_left
            · simp only [Act.put, sa, sz, ss, i64_w, i32_w]
              rfl
            refine one_ (i := 2) (N := some 56) (bb 28 7) rfl rfl (by kernel_rfl) (by decide) (fun K hK => ?_)
            skip
            refine goes_ Tryz.func81 (by kernel_rfl) rfl #[.string k.1] (by rfl) rfl rfl (by (simp only [List.map_toArray, List.map_cons, List.map_nil]); rfl) ?_
            refine (name_calls k.1 _).mono ?_
            rintro e_ w7 ⟨rfl, hb7⟩
            rw [HNAME.out]
            refine ⟨_, rfl, ?_⟩
            refine hK.out _ _ ⟨(hb7.cell (World.block_lt_of_cell? _ _ hHeld.1)).trans hHeld.1, (hb7.cell (World.block_lt_of_cell? _ _ hHeld.2.1)).trans hHeld.2.1, (hb7.cell (World.block_lt_of_cell? _ _ hHeld.2.2.1)).trans hHeld.2.2.1, hHeld.2.2.2.trans (hb7.mono hHeld.2.2.2.size)⟩ (fun hHeld => ?_)
            clear hK K
            refine norm_ (a' := ?_) ?_ ?_
            rotate_left
            · show Act.put _ (some 56) _ = _
              simp only [Act.put, sa, sz, ss, i64_w, i32_w]
              rfl
            clear hb7
            refine pure_ (i := 3) (N := some 57) (v := ?_) (a' := ?_) (bb 28 15) rfl rfl (by kernel_rfl) (fun _ _ _ h => h) (Or.inl ⟨by rfl, ?_⟩) ?_ ?_
            rotate_left
            · intro w'
              go_simp
              with_reducible rfl
            rotate_left
            · simp only [Act.put, sa, sz, ss, i64_w, i32_w]
              rfl
            refine pure_ (i := 4) (N := some 58) (v := ?_) (a' := ?_) (bb 28 31) rfl rfl (by kernel_rfl) (fun _ _ _ h => h) (Or.inl ⟨by rfl, ?_⟩) ?_ ?_
            rotate_left
            · intro w'
              go_simp
              with_reducible rfl
            rotate_left
            · simp only [Act.put, sa, sz, ss, i64_w, i32_w]
              rfl
            refine pure_ (i := 5) (N := some 59) (v := ?_) (a' := ?_) (bb 28 63) rfl rfl (by kernel_rfl) (fun _ _ _ h => h) (Or.inl ⟨by rfl, ?_⟩) ?_ ?_
            rotate_left
            · intro w'
              go_simp
              with_reducible rfl
            rotate_left
            · simp only [Act.put, sa, sz, ss, i64_w, i32_w]
              rfl
            refine pure_ (i := 6) (N := some 60) (v := ?_) (a' := ?_) (bb 28 127) rfl rfl (by kernel_rfl) (fun _ _ _ h => h) (Or.inl ⟨by rfl, ?_⟩) ?_ ?_
            rotate_left
            · intro w'
              go_simp
              with_reducible rfl
            rotate_left
            · simp only [Act.put, sa, sz, ss, i64_w, i32_w]
              rfl
            refine pure_ (i := 7) (N := some 61) (v := ?_) (a' := ?_) (bb 28 255) rfl rfl (by kernel_rfl) (fun _ _ _ h => h) (Or.inl ⟨by rfl, ?_⟩) ?_ ?_
            rotate_left
            · intro w'
              go_simp
              with_reducible rfl
            rotate_left
            · simp only [Act.put, sa, sz, ss, i64_w, i32_w]
              rfl
            refine pure_ (i := 8) (N := some 62) (v := ?_) (a' := ?_) (bb 28 511) rfl rfl (by kernel_rfl) (fun _ _ _ h => h) (Or.inl ⟨by rfl, ?_⟩) ?_ ?_
            rotate_left
            · intro w'
              go_simp
              with_reducible rfl
            rotate_left
            · simp only [Act.put, sa, sz, ss, i64_w, i32_w]
              rfl
            refine take_ (i := 9) (N := some 63) (v := ?_) (a' := ?_) (bb 28 1023) rfl rfl (by kernel_rfl) (fun _ _ _ h => h) (Or.inl ⟨by rfl, ?_⟩) hHeld ?_ ?_
            rotate_left
            · rintro w' ⟨s1_, s2_, s3_, s4_⟩
              go_simp
              with_reducible rfl
            rotate_left
            · simp only [Act.put, sa, sz, ss, i64_w, i32_w]
              rfl
            refine pure_ (i := 10) (N := some 64) (v := ?_) (a' := ?_) (bb 28 2047) rfl rfl (by kernel_rfl) (fun _ _ _ h => h) (Or.inl ⟨by rfl, ?_⟩) ?_ ?_
            rotate_left
            · intro w'
              go_simp
              with_reducible rfl
            rotate_left
            · simp only [Act.put, sa, sz, ss, i64_w, i32_w]
              rfl
            refine pure_ (i := 11) (N := some 65) (v := ?_) (a' := ?_) (bb 28 4095) rfl rfl (by kernel_rfl) (fun _ _ _ h => h) (Or.inl ⟨by rfl, ?_⟩) ?_ ?_
            rotate_left
            · intro w'
              go_simp
              with_reducible rfl
            rotate_left
            · simp only [Act.put, sa, sz, ss, i64_w, i32_w]
              rfl
            refine pure_ (i := 12) (N := some 66) (v := ?_) (a' := ?_) (bb 28 8191) rfl rfl (by kernel_rfl) (fun _ _ _ h => h) (Or.inl ⟨by rfl, ?_⟩) ?_ ?_
            rotate_left
            · intro w'
              go_simp
              with_reducible rfl
            rotate_left
            · simp only [Act.put, sa, sz, ss, i64_w, i32_w]
              rfl
            refine pure_ (i := 13) (N := some 67) (v := ?_) (a' := ?_) (bb 28 16383) rfl rfl (by kernel_rfl) (fun _ _ _ h => h) (Or.inl ⟨by rfl, ?_⟩) ?_ ?_
            rotate_left
            · intro w'
              go_simp
              with_reducible rfl
            rotate_left
            · simp only [Act.put, sa, sz, ss, i64_w, i32_w]
              rfl
            refine take_ (i := 14) (N := some 68) (v := ?_) (a' := ?_) (bb 28 32767) rfl rfl (by kernel_rfl) (fun _ _ _ h => h) (Or.inl ⟨by rfl, ?_⟩) hHeld ?_ ?_
            rotate_left
            · rintro w' ⟨s1_, s2_, s3_, s4_⟩
              go_simp
              with_reducible rfl
            rotate_left
            · simp only [Act.put, sa, sz, ss, i64_w, i32_w]
              rfl
            refine pure_ (i := 15) (N := some 69) (v := ?_) (a' := ?_) (bb 28 65535) rfl rfl (by kernel_rfl) (fun _ _ _ h => h) (Or.inl ⟨by rfl, ?_⟩) ?_ ?_
            rotate_left
            · intro w'
              go_simp
              with_reducible rfl
            rotate_left
            · simp only [Act.put, sa, sz, ss, i64_w, i32_w]
              rfl
            refine take_ (i := 16) (N := some 70) (v := ?_) (a' := ?_) (bb 28 131071) rfl rfl (by kernel_rfl) (fun _ _ _ h => h) (Or.inl ⟨by rfl, ?_⟩) hHeld ?_ ?_
            rotate_left
            · rintro w' ⟨s1_, s2_, s3_, s4_⟩
              go_simp
              with_reducible rfl
            rotate_left
            · simp only [Act.put, sa, sz, ss, i64_w, i32_w]
              rfl
            refine pure_ (i := 17) (N := some 71) (v := ?_) (a' := ?_) (bb 28 262143) rfl rfl (by kernel_rfl) (fun _ _ _ h => h) (Or.inl ⟨by rfl, ?_⟩) ?_ ?_
            rotate_left
            · intro w'
              go_simp
              with_reducible rfl
            rotate_left
            · simp only [Act.put, sa, sz, ss, i64_w, i32_w]
              rfl
            refine pure_ (i := 18) (N := some 72) (v := ?_) (a' := ?_) (bb 28 524287) rfl rfl (by kernel_rfl) (fun _ _ _ h => h) (Or.inl ⟨by rfl, ?_⟩) ?_ ?_
            rotate_left
            · intro w'
              go_simp
              with_reducible rfl
            rotate_left
            · simp only [Act.put, sa, sz, ss, i64_w, i32_w]
              rfl
            refine pure_ (i := 19) (N := some 73) (v := ?_) (a' := ?_) (bb 28 1048575) rfl rfl (by kernel_rfl) (fun _ _ _ h => h) (Or.inl ⟨by rfl, ?_⟩) ?_ ?_
            rotate_left
            · intro w'
              go_simp
              with_reducible rfl
            rotate_left
            · simp only [Act.put, sa, sz, ss, i64_w, i32_w]
              rfl
            refine pure_ (i := 20) (N := some 74) (v := ?_) (a' := ?_) (bb 28 2097151) rfl rfl (by kernel_rfl) (fun _ _ _ h => h) (Or.inl ⟨by rfl, ?_⟩) ?_ ?_
            rotate_left
            · intro w'
              go_simp
              with_reducible rfl
            rotate_left
            · simp only [Act.put, sa, sz, ss, i64_w, i32_w]
              rfl
            refine pure_ (i := 21) (N := some 75) (v := undef) (a' := ?_) (bb 28 4194303) rfl rfl (by kernel_rfl) (fun _ _ _ h => h) (Or.inr ⟨by rfl, rfl⟩) ?_ ?_
            rotate_left
            · simp only [Act.put, sa, sz, ss, i64_w, i32_w]
              rfl
            refine pure_ (i := 22) (N := some 76) (v := undef) (a' := ?_) (bb 28 8388607) rfl rfl (by kernel_rfl) (fun _ _ _ h => h) (Or.inr ⟨by rfl, rfl⟩) ?_ ?_
            rotate_left
            · simp only [Act.put, sa, sz, ss, i64_w, i32_w]
              rfl
            refine pure_ (i := 23) (N := some 77) (v := undef) (a' := ?_) (bb 28 16777215) rfl rfl (by kernel_rfl) (fun _ _ _ h => h) (Or.inr ⟨by rfl, rfl⟩) ?_ ?_
            rotate_left
            · simp only [Act.put, sa, sz, ss, i64_w, i32_w]
              rfl
            refine pure_ (i := 24) (N := some 78) (v := undef) (a' := ?_) (bb 28 33554431) rfl rfl (by kernel_rfl) (fun _ _ _ h => h) (Or.inr ⟨by rfl, rfl⟩) ?_ ?_
            rotate_left
            · simp only [Act.put, sa, sz, ss, i64_w, i32_w]
              rfl
            refine pure_ (i := 25) (N := some 79) (v := undef) (a' := ?_) (bb 28 67108863) rfl rfl (by kernel_rfl) (fun _ _ _ h => h) (Or.inr ⟨by rfl, rfl⟩) ?_ ?_
            rotate_left
            · simp only [Act.put, sa, sz, ss, i64_w, i32_w]
              rfl
            refine pure_ (i := 26) (N := some 80) (v := undef) (a' := ?_) (bb 28 134217727) rfl rfl (by kernel_rfl) (fun _ _ _ h => h) (Or.inr ⟨by rfl, rfl⟩) ?_ ?_
            rotate_left
            · simp only [Act.put, sa, sz, ss, i64_w, i32_w]
              rfl
            refine pure_ (i := 27) (N := some 81) (v := ?_) (a' := ?_) (bb 28 268435455) rfl rfl (by kernel_rfl) (fun _ _ _ h => h) (Or.inl ⟨by rfl, ?_⟩) ?_ ?_
            rotate_left
            · intro w'
              go_simp
              with_reducible rfl
            rotate_left
            · simp only [Act.put, sa, sz, ss, i64_w, i32_w]
              rfl
            refine done_ (by kernel_rfl) ?_
            have HBE := Aside0.mk hHeld.2.2.2
            clear hHeld hS
            go_wp2
            go_ret
            exact may_no (fun h => absurd (names_at h.2.2 HK'.out HKE.out (by have := HIJ.out; omega)) HBEF.out) (HB2.out.trans ((HBW6.out.trans (HBE.out.mono HBW6.out.size)).mono HB2.out.size))
        · have HBADL : Aside0 (¬ LkMay k) := ⟨fun h => by
            rcases h.2 with h2 | h2
            · exact h0 h2.1
            · exact hs0 h2.2⟩
          have n1 : ¬ k.2.2.toList = [] := fun e => hs0 (bytes_inj (by rw [← ByteArray.toList_eq, e]))
          have n2 : (k.2.2.toList = []) = False := eq_false n1
          have n3 : (k.2.2.toList == []) = false := by simpa using n1
          have n4 : k.2.2.toList.isEmpty = false := by simpa using n1
          have n5 : (k.2.2.toList = (⟨#[]⟩ : ByteArray).toList) = False := eq_false (fun e => n1 (e.trans (by kernel_rfl)))
          have n6 : (k.2.2.toList == (⟨#[]⟩ : ByteArray).toList) = false := by simpa using (fun e => n1 (e.trans (by kernel_rfl)) : ¬ k.2.2.toList = (⟨#[]⟩ : ByteArray).toList)
          clear h0 h1 hs0
          go_upto_region 9 with (fail)
          clear y1 g1 g2 n1 n2 n3 n4 n5 n6
          by_cases hname : goodName k.1 = true
          rotate_left
          · have HNAME : Aside0 (goodName k.1 = false) := ⟨by simpa using hname⟩
            have HBADN := Aside0.mk hname
            clear hname
            have hS : w6.drew.cell? ⟨xb, 0, none⟩ = some (.string k.1) ∧ Below w6.heap.size w6 w6.drew := ⟨y0, below_drew (Below.refl _ _)⟩
            refine start_ (n := 28) (S := fun W' => W'.cell? ⟨xb, 0, none⟩ = some (.string k.1) ∧ Below w6.heap.size w6 W') (ds := []) #[false, false, false, false, false, false, false, false, false, false, false, false, false, false, false, false, false, false, false, false, false, false, false, false, false, false, false, false] (by kernel_rfl) rfl rfl hS (fun hHeld => ?_)
            refine pure_ (i := 0) (N := some 54) (v := ?_) (a' := ?_) (bb 28 1) rfl rfl (by kernel_rfl) (fun _ _ _ h => h) (Or.inl ⟨by rfl, ?_⟩) ?_ ?_
            rotate_left
            · intro w'
              go_simp
              with_reducible rfl
            rotate_left
            · simp only [Act.put, sa, sz, ss, i64_w, i32_w]
              rfl
            refine take_ (i := 1) (N := some 55) (v := ?_) (a' := ?_) (bb 28 3) rfl rfl (by kernel_rfl) (fun _ _ _ h => h) (Or.inl ⟨by rfl, ?_⟩) hHeld ?_ ?_
            rotate_left
            · rintro w' ⟨s1_, s2_⟩
              go_simp
              with_reducible rfl
            rotate_left
            · simp only [Act.put, sa, sz, ss, i64_w, i32_w]
              rfl
            refine one_ (i := 2) (N := some 56) (bb 28 7) rfl rfl (by kernel_rfl) (by decide) (fun K hK => ?_)
            skip
            refine goes_ Tryz.func81 (by kernel_rfl) rfl #[.string k.1] (by rfl) rfl rfl (by (simp only [List.map_toArray, List.map_cons, List.map_nil]); rfl) ?_
            refine (name_calls k.1 _).mono ?_
            rintro e_ w7 ⟨rfl, hb7⟩
            rw [HNAME.out]
            refine ⟨_, rfl, ?_⟩
            refine hK.out _ _ ⟨(hb7.cell (World.block_lt_of_cell? _ _ hHeld.1)).trans hHeld.1, hHeld.2.trans (hb7.mono hHeld.2.size)⟩ (fun hHeld => ?_)
            clear hK K
            refine norm_ (a' := ?_) ?_ ?_
            rotate_left
            · show Act.put _ (some 56) _ = _
              simp only [Act.put, sa, sz, ss, i64_w, i32_w]
              rfl
            clear hb7
            refine pure_ (i := 3) (N := some 57) (v := ?_) (a' := ?_) (bb 28 15) rfl rfl (by kernel_rfl) (fun _ _ _ h => h) (Or.inl ⟨by rfl, ?_⟩) ?_ ?_
            rotate_left
            · intro w'
              go_simp
              with_reducible rfl
            rotate_left
            · simp only [Act.put, sa, sz, ss, i64_w, i32_w]
              rfl
            refine pure_ (i := 4) (N := some 58) (v := ?_) (a' := ?_) (bb 28 31) rfl rfl (by kernel_rfl) (fun _ _ _ h => h) (Or.inl ⟨by rfl, ?_⟩) ?_ ?_
            rotate_left
            · intro w'
              go_simp
              with_reducible rfl
            rotate_left
            · simp only [Act.put, sa, sz, ss, i64_w, i32_w]
              rfl
            refine pure_ (i := 5) (N := some 59) (v := undef) (a' := ?_) (bb 28 63) rfl rfl (by kernel_rfl) (fun _ _ _ h => h) (Or.inr ⟨by rfl, rfl⟩) ?_ ?_
            rotate_left
            · simp only [Act.put, sa, sz, ss, i64_w, i32_w]
              rfl
            refine pure_ (i := 6) (N := some 60) (v := undef) (a' := ?_) (bb 28 127) rfl rfl (by kernel_rfl) (fun _ _ _ h => h) (Or.inr ⟨by rfl, rfl⟩) ?_ ?_
            rotate_left
            · simp only [Act.put, sa, sz, ss, i64_w, i32_w]
              rfl
            refine pure_ (i := 7) (N := some 61) (v := undef) (a' := ?_) (bb 28 255) rfl rfl (by kernel_rfl) (fun _ _ _ h => h) (Or.inr ⟨by rfl, rfl⟩) ?_ ?_
            rotate_left
            · simp only [Act.put, sa, sz, ss, i64_w, i32_w]
              rfl
            refine pure_ (i := 8) (N := some 62) (v := undef) (a' := ?_) (bb 28 511) rfl rfl (by kernel_rfl) (fun _ _ _ h => h) (Or.inr ⟨by rfl, rfl⟩) ?_ ?_
            rotate_left
            · simp only [Act.put, sa, sz, ss, i64_w, i32_w]
              rfl
            refine pure_ (i := 9) (N := some 63) (v := undef) (a' := ?_) (bb 28 1023) rfl rfl (by kernel_rfl) (fun _ _ _ h => h) (Or.inr ⟨by rfl, rfl⟩) ?_ ?_
            rotate_left
            · simp only [Act.put, sa, sz, ss, i64_w, i32_w]
              rfl
            refine pure_ (i := 10) (N := some 64) (v := undef) (a' := ?_) (bb 28 2047) rfl rfl (by kernel_rfl) (fun _ _ _ h => h) (Or.inr ⟨by rfl, rfl⟩) ?_ ?_
            rotate_left
            · simp only [Act.put, sa, sz, ss, i64_w, i32_w]
              rfl
            refine pure_ (i := 11) (N := some 65) (v := undef) (a' := ?_) (bb 28 4095) rfl rfl (by kernel_rfl) (fun _ _ _ h => h) (Or.inr ⟨by rfl, rfl⟩) ?_ ?_
            rotate_left
            · simp only [Act.put, sa, sz, ss, i64_w, i32_w]
              rfl
            refine pure_ (i := 12) (N := some 66) (v := undef) (a' := ?_) (bb 28 8191) rfl rfl (by kernel_rfl) (fun _ _ _ h => h) (Or.inr ⟨by rfl, rfl⟩) ?_ ?_
            rotate_left
            · simp only [Act.put, sa, sz, ss, i64_w, i32_w]
              rfl
            refine pure_ (i := 13) (N := some 67) (v := undef) (a' := ?_) (bb 28 16383) rfl rfl (by kernel_rfl) (fun _ _ _ h => h) (Or.inr ⟨by rfl, rfl⟩) ?_ ?_
            rotate_left
            · simp only [Act.put, sa, sz, ss, i64_w, i32_w]
              rfl
            refine pure_ (i := 14) (N := some 68) (v := undef) (a' := ?_) (bb 28 32767) rfl rfl (by kernel_rfl) (fun _ _ _ h => h) (Or.inr ⟨by rfl, rfl⟩) ?_ ?_
            rotate_left
            · simp only [Act.put, sa, sz, ss, i64_w, i32_w]
              rfl
            refine pure_ (i := 15) (N := some 69) (v := undef) (a' := ?_) (bb 28 65535) rfl rfl (by kernel_rfl) (fun _ _ _ h => h) (Or.inr ⟨by rfl, rfl⟩) ?_ ?_
            rotate_left
            · simp only [Act.put, sa, sz, ss, i64_w, i32_w]
              rfl
            refine pure_ (i := 16) (N := some 70) (v := undef) (a' := ?_) (bb 28 131071) rfl rfl (by kernel_rfl) (fun _ _ _ h => h) (Or.inr ⟨by rfl, rfl⟩) ?_ ?_
            rotate_left
            · simp only [Act.put, sa, sz, ss, i64_w, i32_w]
              rfl
            refine pure_ (i := 17) (N := some 71) (v := undef) (a' := ?_) (bb 28 262143) rfl rfl (by kernel_rfl) (fun _ _ _ h => h) (Or.inr ⟨by rfl, rfl⟩) ?_ ?_
            rotate_left
            · simp only [Act.put, sa, sz, ss, i64_w, i32_w]
              rfl
            refine pure_ (i := 18) (N := some 72) (v := undef) (a' := ?_) (bb 28 524287) rfl rfl (by kernel_rfl) (fun _ _ _ h => h) (Or.inr ⟨by rfl, rfl⟩) ?_ ?_
            rotate_left
            · simp only [Act.put, sa, sz, ss, i64_w, i32_w]
              rfl
            refine pure_ (i := 19) (N := some 73) (v := ?_) (a' := ?_) (bb 28 1048575) rfl rfl (by kernel_rfl) (fun _ _ _ h => h) (Or.inl ⟨by rfl, ?_⟩) ?_ ?_
            rotate_left
            · intro w'
              go_simp
              with_reducible rfl
            rotate_left
            · simp only [Act.put, sa, sz, ss, i64_w, i32_w]
              rfl
            refine pure_ (i := 20) (N := some 74) (v := ?_) (a' := ?_) (bb 28 2097151) rfl rfl (by kernel_rfl) (fun _ _ _ h => h) (Or.inl ⟨by rfl, ?_⟩) ?_ ?_
            rotate_left
            · intro w'
              go_simp
              with_reducible rfl
            rotate_left
            · simp only [Act.put, sa, sz, ss, i64_w, i32_w]
              rfl
            refine pure_ (i := 21) (N := some 75) (v := undef) (a' := ?_) (bb 28 4194303) rfl rfl (by kernel_rfl) (fun _ _ _ h => h) (Or.inr ⟨by rfl, rfl⟩) ?_ ?_
            rotate_left
            · simp only [Act.put, sa, sz, ss, i64_w, i32_w]
              rfl
            refine pure_ (i := 22) (N := some 76) (v := undef) (a' := ?_) (bb 28 8388607) rfl rfl (by kernel_rfl) (fun _ _ _ h => h) (Or.inr ⟨by rfl, rfl⟩) ?_ ?_
            rotate_left
            · simp only [Act.put, sa, sz, ss, i64_w, i32_w]
              rfl
            refine pure_ (i := 23) (N := some 77) (v := undef) (a' := ?_) (bb 28 16777215) rfl rfl (by kernel_rfl) (fun _ _ _ h => h) (Or.inr ⟨by rfl, rfl⟩) ?_ ?_
            rotate_left
            · simp only [Act.put, sa, sz, ss, i64_w, i32_w]
              rfl
            refine pure_ (i := 24) (N := some 78) (v := undef) (a' := ?_) (bb 28 33554431) rfl rfl (by kernel_rfl) (fun _ _ _ h => h) (Or.inr ⟨by rfl, rfl⟩) ?_ ?_
            rotate_left
            · simp only [Act.put, sa, sz, ss, i64_w, i32_w]
              rfl
            refine pure_ (i := 25) (N := some 79) (v := undef) (a' := ?_) (bb 28 67108863) rfl rfl (by kernel_rfl) (fun _ _ _ h => h) (Or.inr ⟨by rfl, rfl⟩) ?_ ?_
            rotate_left
            · simp only [Act.put, sa, sz, ss, i64_w, i32_w]
              rfl
            refine pure_ (i := 26) (N := some 80) (v := undef) (a' := ?_) (bb 28 134217727) rfl rfl (by kernel_rfl) (fun _ _ _ h => h) (Or.inr ⟨by rfl, rfl⟩) ?_ ?_
            rotate_left
            · simp only [Act.put, sa, sz, ss, i64_w, i32_w]
              rfl
            refine pure_ (i := 27) (N := some 81) (v := ?_) (a' := ?_) (bb 28 268435455) rfl rfl (by kernel_rfl) (fun _ _ _ h => h) (Or.inl ⟨by rfl, ?_⟩) ?_ ?_
            rotate_left
            · intro w'
              go_simp
              with_reducible rfl
            rotate_left
            · simp only [Act.put, sa, sz, ss, i64_w, i32_w]
              rfl
            refine done_ (by kernel_rfl) ?_
            have HBE := Aside0.mk hHeld.2
            clear hHeld hS
            go_wp2
            go_ret
            exact may_no (fun h => absurd (h.2.1 k HKM.out).1 HBADN.out) (HB2.out.trans ((HBW6.out.trans (HBE.out.mono HBW6.out.size)).mono HB2.out.size))
          have HNAME := Aside0.mk hname
          clear hname
          by_cases hj0 : j = 0
          · have t1 : decide (0 < jv) = false := decide_eq_false (by have := HJV.out; omega)
            have hS : w6.drew.cell? ⟨xb, 0, none⟩ = some (.string k.1) ∧ Below w6.heap.size w6 w6.drew := ⟨y0, below_drew (Below.refl _ _)⟩
            refine start_ (n := 28) (S := fun W' => W'.cell? ⟨xb, 0, none⟩ = some (.string k.1) ∧ Below w6.heap.size w6 W') (ds := []) #[false, false, false, false, false, false, false, false, false, false, false, false, false, false, false, false, false, false, false, false, false, false, false, false, false, false, false, false] (by kernel_rfl) rfl rfl hS (fun hHeld => ?_)
            refine pure_ (i := 0) (N := some 54) (v := ?_) (a' := ?_) (bb 28 1) rfl rfl (by kernel_rfl) (fun _ _ _ h => h) (Or.inl ⟨by rfl, ?_⟩) ?_ ?_
            rotate_left
            · intro w'
              go_simp
              with_reducible rfl
            rotate_left
            · simp only [Act.put, sa, sz, ss, i64_w, i32_w]
              rfl
            refine take_ (i := 1) (N := some 55) (v := ?_) (a' := ?_) (bb 28 3) rfl rfl (by kernel_rfl) (fun _ _ _ h => h) (Or.inl ⟨by rfl, ?_⟩) hHeld ?_ ?_
            rotate_left
            · rintro w' ⟨s1_, s2_⟩
              go_simp
              with_reducible rfl
            rotate_left
            · simp only [Act.put, sa, sz, ss, i64_w, i32_w]
              rfl
            refine one_ (i := 2) (N := some 56) (bb 28 7) rfl rfl (by kernel_rfl) (by decide) (fun K hK => ?_)
            skip
            refine goes_ Tryz.func81 (by kernel_rfl) rfl #[.string k.1] (by rfl) rfl rfl (by (simp only [List.map_toArray, List.map_cons, List.map_nil]); rfl) ?_
            refine (name_calls k.1 _).mono ?_
            rintro e_ w7 ⟨rfl, hb7⟩
            rw [HNAME.out]
            refine ⟨_, rfl, ?_⟩
            refine hK.out _ _ ⟨(hb7.cell (World.block_lt_of_cell? _ _ hHeld.1)).trans hHeld.1, hHeld.2.trans (hb7.mono hHeld.2.size)⟩ (fun hHeld => ?_)
            clear hK K
            refine norm_ (a' := ?_) ?_ ?_
            rotate_left
            · show Act.put _ (some 56) _ = _
              simp only [Act.put, sa, sz, ss, i64_w, i32_w]
              rfl
            clear hb7
            refine pure_ (i := 3) (N := some 57) (v := ?_) (a' := ?_) (bb 28 15) rfl rfl (by kernel_rfl) (fun _ _ _ h => h) (Or.inl ⟨by rfl, ?_⟩) ?_ ?_
            rotate_left
            · intro w'
              go_simp
              with_reducible rfl
            rotate_left
            · simp only [Act.put, sa, sz, ss, i64_w, i32_w]
              rfl
            refine pure_ (i := 4) (N := some 58) (v := ?_) (a' := ?_) (bb 28 31) rfl rfl (by kernel_rfl) (fun _ _ _ h => h) (Or.inl ⟨by rfl, ?_⟩) ?_ ?_
            rotate_left
            · intro w'
              go_simp
              with_reducible rfl
            rotate_left
            · simp only [Act.put, sa, sz, ss, i64_w, i32_w]
              rfl
            refine pure_ (i := 5) (N := some 59) (v := ?_) (a' := ?_) (bb 28 63) rfl rfl (by kernel_rfl) (fun _ _ _ h => h) (Or.inl ⟨by rfl, ?_⟩) ?_ ?_
            rotate_left
            · intro w'
              go_simp
              with_reducible rfl
            rotate_left
            · simp only [Act.put, sa, sz, ss, i64_w, i32_w]
              rfl
            refine pure_ (i := 6) (N := some 60) (v := ?_) (a' := ?_) (bb 28 127) rfl rfl (by kernel_rfl) (fun _ _ _ h => h) (Or.inl ⟨by rfl, ?_⟩) ?_ ?_
            rotate_left
            · intro w'
              go_simp
              with_reducible rfl
            rotate_left
            · simp only [Act.put, sa, sz, ss, i64_w, i32_w]
              rfl
            refine pure_ (i := 7) (N := some 61) (v := ?_) (a' := ?_) (bb 28 255) rfl rfl (by kernel_rfl) (fun _ _ _ h => h) (Or.inl ⟨by rfl, ?_⟩) ?_ ?_
            rotate_left
            · intro w'
              go_simp
              with_reducible rfl
            rotate_left
            · simp only [Act.put, sa, sz, ss, i64_w, i32_w]
              rfl
            refine pure_ (i := 8) (N := some 62) (v := undef) (a' := ?_) (bb 28 511) rfl rfl (by kernel_rfl) (fun _ _ _ h => h) (Or.inr ⟨by rfl, rfl⟩) ?_ ?_
            rotate_left
            · simp only [Act.put, sa, sz, ss, i64_w, i32_w]
              rfl
            refine pure_ (i := 9) (N := some 63) (v := undef) (a' := ?_) (bb 28 1023) rfl rfl (by kernel_rfl) (fun _ _ _ h => h) (Or.inr ⟨by rfl, rfl⟩) ?_ ?_
            rotate_left
            · simp only [Act.put, sa, sz, ss, i64_w, i32_w]
              rfl
            refine pure_ (i := 10) (N := some 64) (v := undef) (a' := ?_) (bb 28 2047) rfl rfl (by kernel_rfl) (fun _ _ _ h => h) (Or.inr ⟨by rfl, rfl⟩) ?_ ?_
            rotate_left
            · simp only [Act.put, sa, sz, ss, i64_w, i32_w]
              rfl
            refine pure_ (i := 11) (N := some 65) (v := undef) (a' := ?_) (bb 28 4095) rfl rfl (by kernel_rfl) (fun _ _ _ h => h) (Or.inr ⟨by rfl, rfl⟩) ?_ ?_
            rotate_left
            · simp only [Act.put, sa, sz, ss, i64_w, i32_w]
              rfl
            refine pure_ (i := 12) (N := some 66) (v := undef) (a' := ?_) (bb 28 8191) rfl rfl (by kernel_rfl) (fun _ _ _ h => h) (Or.inr ⟨by rfl, rfl⟩) ?_ ?_
            rotate_left
            · simp only [Act.put, sa, sz, ss, i64_w, i32_w]
              rfl
            refine pure_ (i := 13) (N := some 67) (v := undef) (a' := ?_) (bb 28 16383) rfl rfl (by kernel_rfl) (fun _ _ _ h => h) (Or.inr ⟨by rfl, rfl⟩) ?_ ?_
            rotate_left
            · simp only [Act.put, sa, sz, ss, i64_w, i32_w]
              rfl
            refine pure_ (i := 14) (N := some 68) (v := undef) (a' := ?_) (bb 28 32767) rfl rfl (by kernel_rfl) (fun _ _ _ h => h) (Or.inr ⟨by rfl, rfl⟩) ?_ ?_
            rotate_left
            · simp only [Act.put, sa, sz, ss, i64_w, i32_w]
              rfl
            refine pure_ (i := 15) (N := some 69) (v := undef) (a' := ?_) (bb 28 65535) rfl rfl (by kernel_rfl) (fun _ _ _ h => h) (Or.inr ⟨by rfl, rfl⟩) ?_ ?_
            rotate_left
            · simp only [Act.put, sa, sz, ss, i64_w, i32_w]
              rfl
            refine pure_ (i := 16) (N := some 70) (v := undef) (a' := ?_) (bb 28 131071) rfl rfl (by kernel_rfl) (fun _ _ _ h => h) (Or.inr ⟨by rfl, rfl⟩) ?_ ?_
            rotate_left
            · simp only [Act.put, sa, sz, ss, i64_w, i32_w]
              rfl
            refine pure_ (i := 17) (N := some 71) (v := undef) (a' := ?_) (bb 28 262143) rfl rfl (by kernel_rfl) (fun _ _ _ h => h) (Or.inr ⟨by rfl, rfl⟩) ?_ ?_
            rotate_left
            · simp only [Act.put, sa, sz, ss, i64_w, i32_w]
              rfl
            refine pure_ (i := 18) (N := some 72) (v := ?_) (a' := ?_) (bb 28 524287) rfl rfl (by kernel_rfl) (fun _ _ _ h => h) (Or.inl ⟨by rfl, ?_⟩) ?_ ?_
            rotate_left
            · intro w'
              go_simp
              with_reducible rfl
            rotate_left
            · simp only [Act.put, sa, sz, ss, i64_w, i32_w]
              rfl
            refine pure_ (i := 19) (N := some 73) (v := ?_) (a' := ?_) (bb 28 1048575) rfl rfl (by kernel_rfl) (fun _ _ _ h => h) (Or.inl ⟨by rfl, ?_⟩) ?_ ?_
            rotate_left
            · intro w'
              go_simp
              with_reducible rfl
            rotate_left
            · simp only [Act.put, sa, sz, ss, i64_w, i32_w]
              rfl
            refine pure_ (i := 20) (N := some 74) (v := ?_) (a' := ?_) (bb 28 2097151) rfl rfl (by kernel_rfl) (fun _ _ _ h => h) (Or.inl ⟨by rfl, ?_⟩) ?_ ?_
            rotate_left
            · intro w'
              go_simp
              with_reducible rfl
            rotate_left
            · simp only [Act.put, sa, sz, ss, i64_w, i32_w]
              rfl
            refine pure_ (i := 21) (N := some 75) (v := ?_) (a' := ?_) (bb 28 4194303) rfl rfl (by kernel_rfl) (fun _ _ _ h => h) (Or.inl ⟨by rfl, ?_⟩) ?_ ?_
            rotate_left
            · intro w'
              go_simp
              with_reducible rfl
            rotate_left
            · simp only [Act.put, sa, sz, ss, i64_w, i32_w]
              rfl
            refine pure_ (i := 22) (N := some 76) (v := ?_) (a' := ?_) (bb 28 8388607) rfl rfl (by kernel_rfl) (fun _ _ _ h => h) (Or.inl ⟨by rfl, ?_⟩) ?_ ?_
            rotate_left
            · intro w'
              go_simp
              with_reducible rfl
            rotate_left
            · simp only [Act.put, sa, sz, ss, i64_w, i32_w]
              rfl
            refine pure_ (i := 23) (N := some 77) (v := ?_) (a' := ?_) (bb 28 16777215) rfl rfl (by kernel_rfl) (fun _ _ _ h => h) (Or.inl ⟨by rfl, ?_⟩) ?_ ?_
            rotate_left
            · intro w'
              go_simp
              with_reducible rfl
            rotate_left
            · simp only [Act.put, sa, sz, ss, i64_w, i32_w]
              rfl
            refine pure_ (i := 24) (N := some 78) (v := ?_) (a' := ?_) (bb 28 33554431) rfl rfl (by kernel_rfl) (fun _ _ _ h => h) (Or.inl ⟨by rfl, ?_⟩) ?_ ?_
            rotate_left
            · intro w'
              go_simp
              with_reducible rfl
            rotate_left
            · simp only [Act.put, sa, sz, ss, i64_w, i32_w]
              rfl
            refine pure_ (i := 25) (N := some 79) (v := ?_) (a' := ?_) (bb 28 67108863) rfl rfl (by kernel_rfl) (fun _ _ _ h => h) (Or.inl ⟨by rfl, ?_⟩) ?_ ?_
            rotate_left
            · intro w'
              go_simp
              with_reducible rfl
            rotate_left
            · simp only [Act.put, sa, sz, ss, i64_w, i32_w]
              rfl
            refine pure_ (i := 26) (N := some 80) (v := ?_) (a' := ?_) (bb 28 134217727) rfl rfl (by kernel_rfl) (fun _ _ _ h => h) (Or.inl ⟨by rfl, ?_⟩) ?_ ?_
            rotate_left
            · intro w'
              go_simp
              with_reducible rfl
            rotate_left
            · simp only [Act.put, sa, sz, ss, i64_w, i32_w]
              rfl
            refine pure_ (i := 27) (N := some 81) (v := ?_) (a' := ?_) (bb 28 268435455) rfl rfl (by kernel_rfl) (fun _ _ _ h => h) (Or.inl ⟨by rfl, ?_⟩) ?_ ?_
            rotate_left
            · intro w'
              go_simp
              with_reducible rfl
            rotate_left
            · simp only [Act.put, sa, sz, ss, i64_w, i32_w]
              rfl
            refine done_ (by kernel_rfl) ?_
            have HBE := Aside0.mk hHeld.2
            clear hHeld hS
            go_wp2
            go_ret
            exact may_no (fun h => absurd (h.2.1 k HKM.out) HBADL.out) (HB2.out.trans ((HBW6.out.trans (HBE.out.mono HBW6.out.size)).mono HB2.out.size))
          obtain ⟨i, hi⟩ : ∃ i, j = i + 1 := ⟨j - 1, by omega⟩
          obtain ⟨k', hk'⟩ : ∃ k', l[i]? = some k' := ⟨_, List.getElem?_eq_getElem (by have := HLT.out; omega)⟩
          obtain ⟨g6, o6, hA6, -, x0, -, -⟩ := HR6.out.at hk'
          obtain ⟨rfl, rfl⟩ : g5 = g6 ∧ o5 = o6 := by simpa using hA6
          have HK' := Aside0.mk hk'
          have t1 : decide (0 < jv) = true := decide_eq_true (by have := HJV.out; omega)
          have v1 : (jv - 1).toNat = i := by have := HJV.out; omega
          have v2 : (0 : Int) ≤ jv - 1 := by have := HJV.out; omega
          have v3 : (1 : Int) ≤ jv := by omega
          have v4 : jv ≤ (l.length : Int) := by have := HJV.out; have := HLT.out; omega
          have v5 : (jv - 1 < (l.length : Int)) = True := eq_true (by omega)
          have v6 : ((0 : Int) ≤ jv - 1) = True := eq_true v2
          have v7 : ((1 : Int) ≤ jv) = True := eq_true v3
          have v8 : (jv ≤ (l.length : Int)) = True := eq_true v4
          have hS : w6.drew.cell? ⟨xb, 0, none⟩ = some (.string k.1) ∧ w6.drew.cell? ⟨wb, 2, none⟩ = some (.slice (some ⟨g5, o5, none⟩) l.length c) ∧ w6.drew.cell? ⟨g5, o5 + i * 3, none⟩ = some (.string k'.1) ∧ Below w6.heap.size w6 w6.drew := ⟨y0, p2, x0, below_drew (Below.refl _ _)⟩
          have HIJ := Aside0.mk hi
          clear hA6 hk' hj0 hi
          by_cases hbef : bytesBefore k'.1.data.toList k.1.data.toList = true
          · have hge : Op.bytesLess k'.1.toList k.1.toList = true := by rw [less_before, ByteArray.toList_eq, ByteArray.toList_eq, hbef]
            have HBEF := Aside0.mk hbef
            clear hbef
            refine start_ (n := 28) (S := fun W' => W'.cell? ⟨xb, 0, none⟩ = some (.string k.1) ∧ W'.cell? ⟨wb, 2, none⟩ = some (.slice (some ⟨g5, o5, none⟩) l.length c) ∧ W'.cell? ⟨g5, o5 + i * 3, none⟩ = some (.string k'.1) ∧ Below w6.heap.size w6 W') (ds := []) #[false, false, false, false, false, false, false, false, false, false, false, false, false, false, false, false, false, false, false, false, false, false, false, false, false, false, false, false] (by kernel_rfl) rfl rfl hS (fun hHeld => ?_)
            refine pure_ (i := 0) (N := some 54) (v := ?_) (a' := ?_) (bb 28 1) rfl rfl (by kernel_rfl) (fun _ _ _ h => h) (Or.inl ⟨by rfl, ?_⟩) ?_ ?_
            rotate_left
            · intro w'
              go_simp
              with_reducible rfl
            rotate_left
            · simp only [Act.put, sa, sz, ss, i64_w, i32_w]
              rfl
            refine take_ (i := 1) (N := some 55) (v := ?_) (a' := ?_) (bb 28 3) rfl rfl (by kernel_rfl) (fun _ _ _ h => h) (Or.inl ⟨by rfl, ?_⟩) hHeld ?_ ?_
            rotate_left
            · rintro w' ⟨s1_, s2_, s3_, s4_⟩
              go_simp
              with_reducible rfl
            rotate_left
            · simp only [Act.put, sa, sz, ss, i64_w, i32_w]
              rfl
            refine one_ (i := 2) (N := some 56) (bb 28 7) rfl rfl (by kernel_rfl) (by decide) (fun K hK => ?_)
            skip
            refine goes_ Tryz.func81 (by kernel_rfl) rfl #[.string k.1] (by rfl) rfl rfl (by (simp only [List.map_toArray, List.map_cons, List.map_nil]); rfl) ?_
            refine (name_calls k.1 _).mono ?_
            rintro e_ w7 ⟨rfl, hb7⟩
            rw [HNAME.out]
            refine ⟨_, rfl, ?_⟩
            refine hK.out _ _ ⟨(hb7.cell (World.block_lt_of_cell? _ _ hHeld.1)).trans hHeld.1, (hb7.cell (World.block_lt_of_cell? _ _ hHeld.2.1)).trans hHeld.2.1, (hb7.cell (World.block_lt_of_cell? _ _ hHeld.2.2.1)).trans hHeld.2.2.1, hHeld.2.2.2.trans (hb7.mono hHeld.2.2.2.size)⟩ (fun hHeld => ?_)
            clear hK K
            refine norm_ (a' := ?_) ?_ ?_
            rotate_left
            · show Act.put _ (some 56) _ = _
              simp only [Act.put, sa, sz, ss, i64_w, i32_w]
              rfl
            clear hb7
            refine pure_ (i := 3) (N := some 57) (v := ?_) (a' := ?_) (bb 28 15) rfl rfl (by kernel_rfl) (fun _ _ _ h => h) (Or.inl ⟨by rfl, ?_⟩) ?_ ?_
            rotate_left
            · intro w'
              go_simp
              with_reducible rfl
            rotate_left
            · simp only [Act.put, sa, sz, ss, i64_w, i32_w]
              rfl
            refine pure_ (i := 4) (N := some 58) (v := ?_) (a' := ?_) (bb 28 31) rfl rfl (by kernel_rfl) (fun _ _ _ h => h) (Or.inl ⟨by rfl, ?_⟩) ?_ ?_
            rotate_left
            · intro w'
              go_simp
              with_reducible rfl
            rotate_left
            · simp only [Act.put, sa, sz, ss, i64_w, i32_w]
              rfl
            refine pure_ (i := 5) (N := some 59) (v := ?_) (a' := ?_) (bb 28 63) rfl rfl (by kernel_rfl) (fun _ _ _ h => h) (Or.inl ⟨by rfl, ?_⟩) ?_ ?_
            rotate_left
            · intro w'
              go_simp
              with_reducible rfl
            rotate_left
            · simp only [Act.put, sa, sz, ss, i64_w, i32_w]
              rfl
            refine pure_ (i := 6) (N := some 60) (v := ?_) (a' := ?_) (bb 28 127) rfl rfl (by kernel_rfl) (fun _ _ _ h => h) (Or.inl ⟨by rfl, ?_⟩) ?_ ?_
            rotate_left
            · intro w'
              go_simp
              with_reducible rfl
            rotate_left
            · simp only [Act.put, sa, sz, ss, i64_w, i32_w]
              rfl
            refine pure_ (i := 7) (N := some 61) (v := ?_) (a' := ?_) (bb 28 255) rfl rfl (by kernel_rfl) (fun _ _ _ h => h) (Or.inl ⟨by rfl, ?_⟩) ?_ ?_
            rotate_left
            · intro w'
              go_simp
              with_reducible rfl
            rotate_left
            · simp only [Act.put, sa, sz, ss, i64_w, i32_w]
              rfl
            refine pure_ (i := 8) (N := some 62) (v := ?_) (a' := ?_) (bb 28 511) rfl rfl (by kernel_rfl) (fun _ _ _ h => h) (Or.inl ⟨by rfl, ?_⟩) ?_ ?_
            rotate_left
            · intro w'
              go_simp
              with_reducible rfl
            rotate_left
            · simp only [Act.put, sa, sz, ss, i64_w, i32_w]
              rfl
            refine take_ (i := 9) (N := some 63) (v := ?_) (a' := ?_) (bb 28 1023) rfl rfl (by kernel_rfl) (fun _ _ _ h => h) (Or.inl ⟨by rfl, ?_⟩) hHeld ?_ ?_
            rotate_left
            · rintro w' ⟨s1_, s2_, s3_, s4_⟩
              go_simp
              with_reducible rfl
            rotate_left
            · simp only [Act.put, sa, sz, ss, i64_w, i32_w]
              rfl
            refine pure_ (i := 10) (N := some 64) (v := ?_) (a' := ?_) (bb 28 2047) rfl rfl (by kernel_rfl) (fun _ _ _ h => h) (Or.inl ⟨by rfl, ?_⟩) ?_ ?_
            rotate_left
            · intro w'
              go_simp
              with_reducible rfl
            rotate_left
            · simp only [Act.put, sa, sz, ss, i64_w, i32_w]
              rfl
            refine pure_ (i := 11) (N := some 65) (v := ?_) (a' := ?_) (bb 28 4095) rfl rfl (by kernel_rfl) (fun _ _ _ h => h) (Or.inl ⟨by rfl, ?_⟩) ?_ ?_
            rotate_left
            · intro w'
              go_simp
              with_reducible rfl
            rotate_left
            · simp only [Act.put, sa, sz, ss, i64_w, i32_w]
              rfl
            refine pure_ (i := 12) (N := some 66) (v := ?_) (a' := ?_) (bb 28 8191) rfl rfl (by kernel_rfl) (fun _ _ _ h => h) (Or.inl ⟨by rfl, ?_⟩) ?_ ?_
            rotate_left
            · intro w'
              go_simp
              with_reducible rfl
            rotate_left
            · simp only [Act.put, sa, sz, ss, i64_w, i32_w]
              rfl
            refine pure_ (i := 13) (N := some 67) (v := ?_) (a' := ?_) (bb 28 16383) rfl rfl (by kernel_rfl) (fun _ _ _ h => h) (Or.inl ⟨by rfl, ?_⟩) ?_ ?_
            rotate_left
            · intro w'
              go_simp
              with_reducible rfl
            rotate_left
            · simp only [Act.put, sa, sz, ss, i64_w, i32_w]
              rfl
            refine take_ (i := 14) (N := some 68) (v := ?_) (a' := ?_) (bb 28 32767) rfl rfl (by kernel_rfl) (fun _ _ _ h => h) (Or.inl ⟨by rfl, ?_⟩) hHeld ?_ ?_
            rotate_left
            · rintro w' ⟨s1_, s2_, s3_, s4_⟩
              go_simp
              with_reducible rfl
            rotate_left
            · simp only [Act.put, sa, sz, ss, i64_w, i32_w]
              rfl
            refine pure_ (i := 15) (N := some 69) (v := ?_) (a' := ?_) (bb 28 65535) rfl rfl (by kernel_rfl) (fun _ _ _ h => h) (Or.inl ⟨by rfl, ?_⟩) ?_ ?_
            rotate_left
            · intro w'
              go_simp
              with_reducible rfl
            rotate_left
            · simp only [Act.put, sa, sz, ss, i64_w, i32_w]
              rfl
            refine take_ (i := 16) (N := some 70) (v := ?_) (a' := ?_) (bb 28 131071) rfl rfl (by kernel_rfl) (fun _ _ _ h => h) (Or.inl ⟨by rfl, ?_⟩) hHeld ?_ ?_
            rotate_left
            · rintro w' ⟨s1_, s2_, s3_, s4_⟩
              go_simp
              with_reducible rfl
            rotate_left
            · simp only [Act.put, sa, sz, ss, i64_w, i32_w]
              rfl
            refine pure_ (i := 17) (N := some 71) (v := ?_) (a' := ?_) (bb 28 262143) rfl rfl (by kernel_rfl) (fun _ _ _ h => h) (Or.inl ⟨by rfl, ?_⟩) ?_ ?_
            rotate_left
            · intro w'
              go_simp
              with_reducible rfl
            rotate_left
            · simp only [Act.put, sa, sz, ss, i64_w, i32_w]
              rfl
            refine pure_ (i := 18) (N := some 72) (v := ?_) (a' := ?_) (bb 28 524287) rfl rfl (by kernel_rfl) (fun _ _ _ h => h) (Or.inl ⟨by rfl, ?_⟩) ?_ ?_
            rotate_left
            · intro w'
              go_simp
              with_reducible rfl
            rotate_left
            · simp only [Act.put, sa, sz, ss, i64_w, i32_w]
              rfl
            refine pure_ (i := 19) (N := some 73) (v := ?_) (a' := ?_) (bb 28 1048575) rfl rfl (by kernel_rfl) (fun _ _ _ h => h) (Or.inl ⟨by rfl, ?_⟩) ?_ ?_
            rotate_left
            · intro w'
              go_simp
              with_reducible rfl
            rotate_left
            · simp only [Act.put, sa, sz, ss, i64_w, i32_w]
              rfl
            refine pure_ (i := 20) (N := some 74) (v := ?_) (a' := ?_) (bb 28 2097151) rfl rfl (by kernel_rfl) (fun _ _ _ h => h) (Or.inl ⟨by rfl, ?_⟩) ?_ ?_
            rotate_left
            · intro w'
              go_simp
              with_reducible rfl
            rotate_left
            · simp only [Act.put, sa, sz, ss, i64_w, i32_w]
              rfl
            refine pure_ (i := 21) (N := some 75) (v := ?_) (a' := ?_) (bb 28 4194303) rfl rfl (by kernel_rfl) (fun _ _ _ h => h) (Or.inl ⟨by rfl, ?_⟩) ?_ ?_
            rotate_left
            · intro w'
              go_simp
              with_reducible rfl
            rotate_left
            · simp only [Act.put, sa, sz, ss, i64_w, i32_w]
              rfl
            refine pure_ (i := 22) (N := some 76) (v := ?_) (a' := ?_) (bb 28 8388607) rfl rfl (by kernel_rfl) (fun _ _ _ h => h) (Or.inl ⟨by rfl, ?_⟩) ?_ ?_
            rotate_left
            · intro w'
              go_simp
              with_reducible rfl
            rotate_left
            · simp only [Act.put, sa, sz, ss, i64_w, i32_w]
              rfl
            refine pure_ (i := 23) (N := some 77) (v := ?_) (a' := ?_) (bb 28 16777215) rfl rfl (by kernel_rfl) (fun _ _ _ h => h) (Or.inl ⟨by rfl, ?_⟩) ?_ ?_
            rotate_left
            · intro w'
              go_simp
              with_reducible rfl
            rotate_left
            · simp only [Act.put, sa, sz, ss, i64_w, i32_w]
              rfl
            refine pure_ (i := 24) (N := some 78) (v := ?_) (a' := ?_) (bb 28 33554431) rfl rfl (by kernel_rfl) (fun _ _ _ h => h) (Or.inl ⟨by rfl, ?_⟩) ?_ ?_
            rotate_left
            · intro w'
              go_simp
              with_reducible rfl
            rotate_left
            · simp only [Act.put, sa, sz, ss, i64_w, i32_w]
              rfl
            refine pure_ (i := 25) (N := some 79) (v := ?_) (a' := ?_) (bb 28 67108863) rfl rfl (by kernel_rfl) (fun _ _ _ h => h) (Or.inl ⟨by rfl, ?_⟩) ?_ ?_
            rotate_left
            · intro w'
              go_simp
              with_reducible rfl
            rotate_left
            · simp only [Act.put, sa, sz, ss, i64_w, i32_w]
              rfl
            refine pure_ (i := 26) (N := some 80) (v := ?_) (a' := ?_) (bb 28 134217727) rfl rfl (by kernel_rfl) (fun _ _ _ h => h) (Or.inl ⟨by rfl, ?_⟩) ?_ ?_
            rotate_left
            · intro w'
              go_simp
              with_reducible rfl
            rotate_left
            · simp only [Act.put, sa, sz, ss, i64_w, i32_w]
              rfl
            refine pure_ (i := 27) (N := some 81) (v := ?_) (a' := ?_) (bb 28 268435455) rfl rfl (by kernel_rfl) (fun _ _ _ h => h) (Or.inl ⟨by rfl, ?_⟩) ?_ ?_
            rotate_left
            · intro w'
              go_simp
              with_reducible rfl
            rotate_left
            · simp only [Act.put, sa, sz, ss, i64_w, i32_w]
              rfl
            refine done_ (by kernel_rfl) ?_
            have HBE := Aside0.mk hHeld.2.2.2
            clear hHeld hS
            go_wp2
            go_ret
            exact may_no (fun h => absurd (h.2.1 k HKM.out) HBADL.out) (HB2.out.trans ((HBW6.out.trans (HBE.out.mono HBW6.out.size)).mono HB2.out.size))
          · have hge : Op.bytesLess k'.1.toList k.1.toList = false := by rw [less_before, ByteArray.toList_eq, ByteArray.toList_eq]; simpa using hbef
            have HBEF := Aside0.mk hbef
            clear hbef
            refine start_ (n := 28) (S := fun W' => W'.cell? ⟨xb, 0, none⟩ = some (.string k.1) ∧ W'.cell? ⟨wb, 2, none⟩ = some (.slice (some ⟨g5, o5, none⟩) l.length c) ∧ W'.cell? ⟨g5, o5 + i * 3, none⟩ = some (.string k'.1) ∧ Below w6.heap.size w6 W') (ds := []) #[false, false, false, false, false, false, false, false, false, false, false, false, false, false, false, false, false, false, false, false, false, false, false, false, false, false, false, false] (by kernel_rfl) rfl rfl hS (fun hHeld => ?_)
            refine pure_ (i := 0) (N := some 54) (v := ?_) (a' := ?_) (bb 28 1) rfl rfl (by kernel_rfl) (fun _ _ _ h => h) (Or.inl ⟨by rfl, ?_⟩) ?_ ?_
            rotate_left
            · intro w'
              go_simp
              with_reducible rfl
            rotate_left
            · simp only [Act.put, sa, sz, ss, i64_w, i32_w]
              rfl
            refine take_ (i := 1) (N := some 55) (v := ?_) (a' := ?_) (bb 28 3) rfl rfl (by kernel_rfl) (fun _ _ _ h => h) (Or.inl ⟨by rfl, ?_⟩) hHeld ?_ ?_
            rotate_left
            · rintro w' ⟨s1_, s2_, s3_, s4_⟩
              go_simp
              with_reducible rfl
            rotate_left
            · simp only [Act.put, sa, sz, ss, i64_w, i32_w]
              rfl
            refine one_ (i := 2) (N := some 56) (bb 28 7) rfl rfl (by kernel_rfl) (by decide) (fun K hK => ?_)
            skip
            refine goes_ Tryz.func81 (by kernel_rfl) rfl #[.string k.1] (by rfl) rfl rfl (by (simp only [List.map_toArray, List.map_cons, List.map_nil]); rfl) ?_
            refine (name_calls k.1 _).mono ?_
            rintro e_ w7 ⟨rfl, hb7⟩
            rw [HNAME.out]
            refine ⟨_, rfl, ?_⟩
            refine hK.out _ _ ⟨(hb7.cell (World.block_lt_of_cell? _ _ hHeld.1)).trans hHeld.1, (hb7.cell (World.block_lt_of_cell? _ _ hHeld.2.1)).trans hHeld.2.1, (hb7.cell (World.block_lt_of_cell? _ _ hHeld.2.2.1)).trans hHeld.2.2.1, hHeld.2.2.2.trans (hb7.mono hHeld.2.2.2.size)⟩ (fun hHeld => ?_)
            clear hK K
            refine norm_ (a' := ?_) ?_ ?_
            rotate_left
            · show Act.put _ (some 56) _ = _
              simp only [Act.put, sa, sz, ss, i64_w, i32_w]
              rfl
            clear hb7
            refine pure_ (i := 3) (N := some 57) (v := ?_) (a' := ?_) (bb 28 15) rfl rfl (by kernel_rfl) (fun _ _ _ h => h) (Or.inl ⟨by rfl, ?_⟩) ?_ ?_
            rotate_left
            · intro w'
              go_simp
              with_reducible rfl
            rotate_left
            · simp only [Act.put, sa, sz, ss, i64_w, i32_w]
              rfl
            refine pure_ (i := 4) (N := some 58) (v := ?_) (a' := ?_) (bb 28 31) rfl rfl (by kernel_rfl) (fun _ _ _ h => h) (Or.inl ⟨by rfl, ?_⟩) ?_ ?_
            rotate_left
            · intro w'
              go_simp
              with_reducible rfl
            rotate_left
            · simp only [Act.put, sa, sz, ss, i64_w, i32_w]
              rfl
            refine pure_ (i := 5) (N := some 59) (v := ?_) (a' := ?_) (bb 28 63) rfl rfl (by kernel_rfl) (fun _ _ _ h => h) (Or.inl ⟨by rfl, ?_⟩) ?_ ?_
            rotate_left
            · intro w'
              go_simp
              with_reducible rfl
            rotate_left
            · simp only [Act.put, sa, sz, ss, i64_w, i32_w]
              rfl
            refine pure_ (i := 6) (N := some 60) (v := ?_) (a' := ?_) (bb 28 127) rfl rfl (by kernel_rfl) (fun _ _ _ h => h) (Or.inl ⟨by rfl, ?_⟩) ?_ ?_
            rotate_left
            · intro w'
              go_simp
              with_reducible rfl
            rotate_left
            · simp only [Act.put, sa, sz, ss, i64_w, i32_w]
              rfl
            refine pure_ (i := 7) (N := some 61) (v := ?_) (a' := ?_) (bb 28 255) rfl rfl (by kernel_rfl) (fun _ _ _ h => h) (Or.inl ⟨by rfl, ?_⟩) ?_ ?_
            rotate_left
            · intro w'
              go_simp
              with_reducible rfl
            rotate_left
            · simp only [Act.put, sa, sz, ss, i64_w, i32_w]
              rfl
            refine pure_ (i := 8) (N := some 62) (v := ?_) (a' := ?_) (bb 28 511) rfl rfl (by kernel_rfl) (fun _ _ _ h => h) (Or.inl ⟨by rfl, ?_⟩) ?_ ?_
            rotate_left
            · intro w'
              go_simp
              with_reducible rfl
            rotate_left
            · simp only [Act.put, sa, sz, ss, i64_w, i32_w]
              rfl
            refine take_ (i := 9) (N := some 63) (v := ?_) (a' := ?_) (bb 28 1023) rfl rfl (by kernel_rfl) (fun _ _ _ h => h) (Or.inl ⟨by rfl, ?_⟩) hHeld ?_ ?_
            rotate_left
            · rintro w' ⟨s1_, s2_, s3_, s4_⟩
              go_simp
              with_reducible rfl
            rotate_left
            · simp only [Act.put, sa, sz, ss, i64_w, i32_w]
              rfl
            refine pure_ (i := 10) (N := some 64) (v := ?_) (a' := ?_) (bb 28 2047) rfl rfl (by kernel_rfl) (fun _ _ _ h => h) (Or.inl ⟨by rfl, ?_⟩) ?_ ?_
            rotate_left
            · intro w'
              go_simp
              with_reducible rfl
            rotate_left
            · simp only [Act.put, sa, sz, ss, i64_w, i32_w]
              rfl
            refine pure_ (i := 11) (N := some 65) (v := ?_) (a' := ?_) (bb 28 4095) rfl rfl (by kernel_rfl) (fun _ _ _ h => h) (Or.inl ⟨by rfl, ?_⟩) ?_ ?_
            rotate_left
            · intro w'
              go_simp
              with_reducible rfl
            rotate_left
            · simp only [Act.put, sa, sz, ss, i64_w, i32_w]
              rfl
            refine pure_ (i := 12) (N := some 66) (v := ?_) (a' := ?_) (bb 28 8191) rfl rfl (by kernel_rfl) (fun _ _ _ h => h) (Or.inl ⟨by rfl, ?_⟩) ?_ ?_
            rotate_left
            · intro w'
              go_simp
              with_reducible rfl
            rotate_left
            · simp only [Act.put, sa, sz, ss, i64_w, i32_w]
              rfl
            refine pure_ (i := 13) (N := some 67) (v := ?_) (a' := ?_) (bb 28 16383) rfl rfl (by kernel_rfl) (fun _ _ _ h => h) (Or.inl ⟨by rfl, ?_⟩) ?_ ?_
            rotate_left
            · intro w'
              go_simp
              with_reducible rfl
            rotate_left
            · simp only [Act.put, sa, sz, ss, i64_w, i32_w]
              rfl
            refine take_ (i := 14) (N := some 68) (v := ?_) (a' := ?_) (bb 28 32767) rfl rfl (by kernel_rfl) (fun _ _ _ h => h) (Or.inl ⟨by rfl, ?_⟩) hHeld ?_ ?_
            rotate_left
            · rintro w' ⟨s1_, s2_, s3_, s4_⟩
              go_simp
              with_reducible rfl
            rotate_left
            · simp only [Act.put, sa, sz, ss, i64_w, i32_w]
              rfl
            refine pure_ (i := 15) (N := some 69) (v := ?_) (a' := ?_) (bb 28 65535) rfl rfl (by kernel_rfl) (fun _ _ _ h => h) (Or.inl ⟨by rfl, ?_⟩) ?_ ?_
            rotate_left
            · intro w'
              go_simp
              with_reducible rfl
            rotate_left
            · simp only [Act.put, sa, sz, ss, i64_w, i32_w]
              rfl
            refine take_ (i := 16) (N := some 70) (v := ?_) (a' := ?_) (bb 28 131071) rfl rfl (by kernel_rfl) (fun _ _ _ h => h) (Or.inl ⟨by rfl, ?_⟩) hHeld ?_ ?_
            rotate_left
            · rintro w' ⟨s1_, s2_, s3_, s4_⟩
              go_simp
              with_reducible rfl
            rotate_left
            · simp only [Act.put, sa, sz, ss, i64_w, i32_w]
              rfl
            refine pure_ (i := 17) (N := some 71) (v := ?_) (a' := ?_) (bb 28 262143) rfl rfl (by kernel_rfl) (fun _ _ _ h => h) (Or.inl ⟨by rfl, ?_⟩) ?_ ?_
            rotate_left
            · intro w'
              go_simp
              with_reducible rfl
            rotate_left
            · simp only [Act.put, sa, sz, ss, i64_w, i32_w]
              rfl
            refine pure_ (i := 18) (N := some 72) (v := ?_) (a' := ?_) (bb 28 524287) rfl rfl (by kernel_rfl) (fun _ _ _ h => h) (Or.inl ⟨by rfl, ?_⟩) ?_ ?_
            rotate_left
            · intro w'
              go_simp
              with_reducible rfl
            rotate_left
            · simp only [Act.put, sa, sz, ss, i64_w, i32_w]
              rfl
            refine pure_ (i := 19) (N := some 73) (v := ?_) (a' := ?_) (bb 28 1048575) rfl rfl (by kernel_rfl) (fun _ _ _ h => h) (Or.inl ⟨by rfl, ?_⟩) ?_ ?_
            rotate_left
            · intro w'
              go_simp
              with_reducible rfl
            rotate_left
            · simp only [Act.put, sa, sz, ss, i64_w, i32_w]
              rfl
            refine pure_ (i := 20) (N := some 74) (v := ?_) (a' := ?_) (bb 28 2097151) rfl rfl (by kernel_rfl) (fun _ _ _ h => h) (Or.inl ⟨by rfl, ?_⟩) ?_ ?_
            rotate_left
            · intro w'
              go_simp
              with_reducible rfl
            rotate_left
            · simp only [Act.put, sa, sz, ss, i64_w, i32_w]
              rfl
            refine pure_ (i := 21) (N := some 75) (v := undef) (a' := ?_) (bb 28 4194303) rfl rfl (by kernel_rfl) (fun _ _ _ h => h) (Or.inr ⟨by rfl, rfl⟩) ?_ ?_
            rotate_left
            · simp only [Act.put, sa, sz, ss, i64_w, i32_w]
              rfl
            refine pure_ (i := 22) (N := some 76) (v := undef) (a' := ?_) (bb 28 8388607) rfl rfl (by kernel_rfl) (fun _ _ _ h => h) (Or.inr ⟨by rfl, rfl⟩) ?_ ?_
            rotate_left
            · simp only [Act.put, sa, sz, ss, i64_w, i32_w]
              rfl
            refine pure_ (i := 23) (N := some 77) (v := undef) (a' := ?_) (bb 28 16777215) rfl rfl (by kernel_rfl) (fun _ _ _ h => h) (Or.inr ⟨by rfl, rfl⟩) ?_ ?_
            rotate_left
            · simp only [Act.put, sa, sz, ss, i64_w, i32_w]
              rfl
            refine pure_ (i := 24) (N := some 78) (v := undef) (a' := ?_) (bb 28 33554431) rfl rfl (by kernel_rfl) (fun _ _ _ h => h) (Or.inr ⟨by rfl, rfl⟩) ?_ ?_
            rotate_left
            · simp only [Act.put, sa, sz, ss, i64_w, i32_w]
              rfl
            refine pure_ (i := 25) (N := some 79) (v := undef) (a' := ?_) (bb 28 67108863) rfl rfl (by kernel_rfl) (fun _ _ _ h => h) (Or.inr ⟨by rfl, rfl⟩) ?_ ?_
            rotate_left
            · simp only [Act.put, sa, sz, ss, i64_w, i32_w]
              rfl
            refine pure_ (i := 26) (N := some 80) (v := undef) (a' := ?_) (bb 28 134217727) rfl rfl (by kernel_rfl) (fun _ _ _ h => h) (Or.inr ⟨by rfl, rfl⟩) ?_ ?_
            rotate_left
            · simp only [Act.put, sa, sz, ss, i64_w, i32_w]
              rfl
            refine pure_ (i := 27) (N := some 81) (v := ?_) (a' := ?_) (bb 28 268435455) rfl rfl (by kernel_rfl) (fun _ _ _ h => h) (Or.inl ⟨by rfl, ?_⟩) ?_ ?_
            rotate_left
            · intro w'
              go_simp
              with_reducible rfl
            rotate_left
            · simp only [Act.put, sa, sz, ss, i64_w, i32_w]
              rfl
            refine done_ (by kernel_rfl) ?_
            have HBE := Aside0.mk hHeld.2.2.2
            clear hHeld hS
            go_wp2
            go_ret
            exact may_no (fun h => absurd (names_at h.2.2 HK'.out HKE.out (by have := HIJ.out; omega)) HBEF.out) (HB2.out.trans ((HBW6.out.trans (HBE.out.mono HBW6.out.size)).mono HB2.out.size))
      · have g1 : decide (1 < k.2.1) = false := decide_eq_false h1
        have HBADL : Aside0 (¬ LkMay k) := ⟨fun h => by
          rcases h.2 with h2 | h2
          · exact h0 h2.1
          · omega⟩
        clear h0 h1
        go_upto_region 9 with (fail)
        clear y1 g1 g2
        by_cases hname : goodName k.1 = true
        rotate_left
        · have HNAME : Aside0 (goodName k.1 = false) := ⟨by simpa using hname⟩
          have HBADN := Aside0.mk hname
          clear hname
          have hS : w6.drew.cell? ⟨xb, 0, none⟩ = some (.string k.1) ∧ Below w6.heap.size w6 w6.drew := ⟨y0, below_drew (Below.refl _ _)⟩
          refine start_ (n := 28) (S := fun W' => W'.cell? ⟨xb, 0, none⟩ = some (.string k.1) ∧ Below w6.heap.size w6 W') (ds := []) #[false, false, false, false, false, false, false, false, false, false, false, false, false, false, false, false, false, false, false, false, false, false, false, false, false, false, false, false] (by kernel_rfl) rfl rfl hS (fun hHeld => ?_)
          refine pure_ (i := 0) (N := some 54) (v := ?_) (a' := ?_) (bb 28 1) rfl rfl (by kernel_rfl) (fun _ _ _ h => h) (Or.inl ⟨by rfl, ?_⟩) ?_ ?_
          rotate_left
          · intro w'
            go_simp
            with_reducible rfl
          rotate_left
          · simp only [Act.put, sa, sz, ss, i64_w, i32_w]
            rfl
          refine take_ (i := 1) (N := some 55) (v := ?_) (a' := ?_) (bb 28 3) rfl rfl (by kernel_rfl) (fun _ _ _ h => h) (Or.inl ⟨by rfl, ?_⟩) hHeld ?_ ?_
          rotate_left
          · rintro w' ⟨s1_, s2_⟩
            go_simp
            with_reducible rfl
          rotate_left
          · simp only [Act.put, sa, sz, ss, i64_w, i32_w]
            rfl
          refine one_ (i := 2) (N := some 56) (bb 28 7) rfl rfl (by kernel_rfl) (by decide) (fun K hK => ?_)
          skip
          refine goes_ Tryz.func81 (by kernel_rfl) rfl #[.string k.1] (by rfl) rfl rfl (by (simp only [List.map_toArray, List.map_cons, List.map_nil]); rfl) ?_
          refine (name_calls k.1 _).mono ?_
          rintro e_ w7 ⟨rfl, hb7⟩
          rw [HNAME.out]
          refine ⟨_, rfl, ?_⟩
          refine hK.out _ _ ⟨(hb7.cell (World.block_lt_of_cell? _ _ hHeld.1)).trans hHeld.1, hHeld.2.trans (hb7.mono hHeld.2.size)⟩ (fun hHeld => ?_)
          clear hK K
          refine norm_ (a' := ?_) ?_ ?_
          rotate_left
          · show Act.put _ (some 56) _ = _
            simp only [Act.put, sa, sz, ss, i64_w, i32_w]
            rfl
          clear hb7
          refine pure_ (i := 3) (N := some 57) (v := ?_) (a' := ?_) (bb 28 15) rfl rfl (by kernel_rfl) (fun _ _ _ h => h) (Or.inl ⟨by rfl, ?_⟩) ?_ ?_
          rotate_left
          · intro w'
            go_simp
            with_reducible rfl
          rotate_left
          · simp only [Act.put, sa, sz, ss, i64_w, i32_w]
            rfl
          refine pure_ (i := 4) (N := some 58) (v := ?_) (a' := ?_) (bb 28 31) rfl rfl (by kernel_rfl) (fun _ _ _ h => h) (Or.inl ⟨by rfl, ?_⟩) ?_ ?_
          rotate_left
          · intro w'
            go_simp
            with_reducible rfl
          rotate_left
          · simp only [Act.put, sa, sz, ss, i64_w, i32_w]
            rfl
          refine pure_ (i := 5) (N := some 59) (v := undef) (a' := ?_) (bb 28 63) rfl rfl (by kernel_rfl) (fun _ _ _ h => h) (Or.inr ⟨by rfl, rfl⟩) ?_ ?_
          rotate_left
          · simp only [Act.put, sa, sz, ss, i64_w, i32_w]
            rfl
          refine pure_ (i := 6) (N := some 60) (v := undef) (a' := ?_) (bb 28 127) rfl rfl (by kernel_rfl) (fun _ _ _ h => h) (Or.inr ⟨by rfl, rfl⟩) ?_ ?_
          rotate_left
          · simp only [Act.put, sa, sz, ss, i64_w, i32_w]
            rfl
          refine pure_ (i := 7) (N := some 61) (v := undef) (a' := ?_) (bb 28 255) rfl rfl (by kernel_rfl) (fun _ _ _ h => h) (Or.inr ⟨by rfl, rfl⟩) ?_ ?_
          rotate_left
          · simp only [Act.put, sa, sz, ss, i64_w, i32_w]
            rfl
          refine pure_ (i := 8) (N := some 62) (v := undef) (a' := ?_) (bb 28 511) rfl rfl (by kernel_rfl) (fun _ _ _ h => h) (Or.inr ⟨by rfl, rfl⟩) ?_ ?_
          rotate_left
          · simp only [Act.put, sa, sz, ss, i64_w, i32_w]
            rfl
          refine pure_ (i := 9) (N := some 63) (v := undef) (a' := ?_) (bb 28 1023) rfl rfl (by kernel_rfl) (fun _ _ _ h => h) (Or.inr ⟨by rfl, rfl⟩) ?_ ?_
          rotate_left
          · simp only [Act.put, sa, sz, ss, i64_w, i32_w]
            rfl
          refine pure_ (i := 10) (N := some 64) (v := undef) (a' := ?_) (bb 28 2047) rfl rfl (by kernel_rfl) (fun _ _ _ h => h) (Or.inr ⟨by rfl, rfl⟩) ?_ ?_
          rotate_left
          · simp only [Act.put, sa, sz, ss, i64_w, i32_w]
            rfl
          refine pure_ (i := 11) (N := some 65) (v := undef) (a' := ?_) (bb 28 4095) rfl rfl (by kernel_rfl) (fun _ _ _ h => h) (Or.inr ⟨by rfl, rfl⟩) ?_ ?_
          rotate_left
          · simp only [Act.put, sa, sz, ss, i64_w, i32_w]
            rfl
          refine pure_ (i := 12) (N := some 66) (v := undef) (a' := ?_) (bb 28 8191) rfl rfl (by kernel_rfl) (fun _ _ _ h => h) (Or.inr ⟨by rfl, rfl⟩) ?_ ?_
          rotate_left
          · simp only [Act.put, sa, sz, ss, i64_w, i32_w]
            rfl
          refine pure_ (i := 13) (N := some 67) (v := undef) (a' := ?_) (bb 28 16383) rfl rfl (by kernel_rfl) (fun _ _ _ h => h) (Or.inr ⟨by rfl, rfl⟩) ?_ ?_
          rotate_left
          · simp only [Act.put, sa, sz, ss, i64_w, i32_w]
            rfl
          refine pure_ (i := 14) (N := some 68) (v := undef) (a' := ?_) (bb 28 32767) rfl rfl (by kernel_rfl) (fun _ _ _ h => h) (Or.inr ⟨by rfl, rfl⟩) ?_ ?_
          rotate_left
          · simp only [Act.put, sa, sz, ss, i64_w, i32_w]
            rfl
          refine pure_ (i := 15) (N := some 69) (v := undef) (a' := ?_) (bb 28 65535) rfl rfl (by kernel_rfl) (fun _ _ _ h => h) (Or.inr ⟨by rfl, rfl⟩) ?_ ?_
          rotate_left
          · simp only [Act.put, sa, sz, ss, i64_w, i32_w]
            rfl
          refine pure_ (i := 16) (N := some 70) (v := undef) (a' := ?_) (bb 28 131071) rfl rfl (by kernel_rfl) (fun _ _ _ h => h) (Or.inr ⟨by rfl, rfl⟩) ?_ ?_
          rotate_left
          · simp only [Act.put, sa, sz, ss, i64_w, i32_w]
            rfl
          refine pure_ (i := 17) (N := some 71) (v := undef) (a' := ?_) (bb 28 262143) rfl rfl (by kernel_rfl) (fun _ _ _ h => h) (Or.inr ⟨by rfl, rfl⟩) ?_ ?_
          rotate_left
          · simp only [Act.put, sa, sz, ss, i64_w, i32_w]
            rfl
          refine pure_ (i := 18) (N := some 72) (v := undef) (a' := ?_) (bb 28 524287) rfl rfl (by kernel_rfl) (fun _ _ _ h => h) (Or.inr ⟨by rfl, rfl⟩) ?_ ?_
          rotate_left
          · simp only [Act.put, sa, sz, ss, i64_w, i32_w]
            rfl
          refine pure_ (i := 19) (N := some 73) (v := ?_) (a' := ?_) (bb 28 1048575) rfl rfl (by kernel_rfl) (fun _ _ _ h => h) (Or.inl ⟨by rfl, ?_⟩) ?_ ?_
          rotate_left
          · intro w'
            go_simp
            with_reducible rfl
          rotate_left
          · simp only [Act.put, sa, sz, ss, i64_w, i32_w]
            rfl
          refine pure_ (i := 20) (N := some 74) (v := ?_) (a' := ?_) (bb 28 2097151) rfl rfl (by kernel_rfl) (fun _ _ _ h => h) (Or.inl ⟨by rfl, ?_⟩) ?_ ?_
          rotate_left
          · intro w'
            go_simp
            with_reducible rfl
          rotate_left
          · simp only [Act.put, sa, sz, ss, i64_w, i32_w]
            rfl
          refine pure_ (i := 21) (N := some 75) (v := undef) (a' := ?_) (bb 28 4194303) rfl rfl (by kernel_rfl) (fun _ _ _ h => h) (Or.inr ⟨by rfl, rfl⟩) ?_ ?_
          rotate_left
          · simp only [Act.put, sa, sz, ss, i64_w, i32_w]
            rfl
          refine pure_ (i := 22) (N := some 76) (v := undef) (a' := ?_) (bb 28 8388607) rfl rfl (by kernel_rfl) (fun _ _ _ h => h) (Or.inr ⟨by rfl, rfl⟩) ?_ ?_
          rotate_left
          · simp only [Act.put, sa, sz, ss, i64_w, i32_w]
            rfl
          refine pure_ (i := 23) (N := some 77) (v := undef) (a' := ?_) (bb 28 16777215) rfl rfl (by kernel_rfl) (fun _ _ _ h => h) (Or.inr ⟨by rfl, rfl⟩) ?_ ?_
          rotate_left
          · simp only [Act.put, sa, sz, ss, i64_w, i32_w]
            rfl
          refine pure_ (i := 24) (N := some 78) (v := undef) (a' := ?_) (bb 28 33554431) rfl rfl (by kernel_rfl) (fun _ _ _ h => h) (Or.inr ⟨by rfl, rfl⟩) ?_ ?_
          rotate_left
          · simp only [Act.put, sa, sz, ss, i64_w, i32_w]
            rfl
          refine pure_ (i := 25) (N := some 79) (v := undef) (a' := ?_) (bb 28 67108863) rfl rfl (by kernel_rfl) (fun _ _ _ h => h) (Or.inr ⟨by rfl, rfl⟩) ?_ ?_
          rotate_left
          · simp only [Act.put, sa, sz, ss, i64_w, i32_w]
            rfl
          refine pure_ (i := 26) (N := some 80) (v := undef) (a' := ?_) (bb 28 134217727) rfl rfl (by kernel_rfl) (fun _ _ _ h => h) (Or.inr ⟨by rfl, rfl⟩) ?_ ?_
          rotate_left
          · simp only [Act.put, sa, sz, ss, i64_w, i32_w]
            rfl
          refine pure_ (i := 27) (N := some 81) (v := ?_) (a' := ?_) (bb 28 268435455) rfl rfl (by kernel_rfl) (fun _ _ _ h => h) (Or.inl ⟨by rfl, ?_⟩) ?_ ?_
          rotate_left
          · intro w'
            go_simp
            with_reducible rfl
          rotate_left
          · simp only [Act.put, sa, sz, ss, i64_w, i32_w]
            rfl
          refine done_ (by kernel_rfl) ?_
          have HBE := Aside0.mk hHeld.2
          clear hHeld hS
          go_wp2
          go_ret
          exact may_no (fun h => absurd (h.2.1 k HKM.out).1 HBADN.out) (HB2.out.trans ((HBW6.out.trans (HBE.out.mono HBW6.out.size)).mono HB2.out.size))
        have HNAME := Aside0.mk hname
        clear hname
        by_cases hj0 : j = 0
        · have t1 : decide (0 < jv) = false := decide_eq_false (by have := HJV.out; omega)
          have hS : w6.drew.cell? ⟨xb, 0, none⟩ = some (.string k.1) ∧ Below w6.heap.size w6 w6.drew := ⟨y0, below_drew (Below.refl _ _)⟩
          refine start_ (n := 28) (S := fun W' => W'.cell? ⟨xb, 0, none⟩ = some (.string k.1) ∧ Below w6.heap.size w6 W') (ds := []) #[false, false, false, false, false, false, false, false, false, false, false, false, false, false, false, false, false, false, false, false, false, false, false, false, false, false, false, false] (by kernel_rfl) rfl rfl hS (fun hHeld => ?_)
          refine pure_ (i := 0) (N := some 54) (v := ?_) (a' := ?_) (bb 28 1) rfl rfl (by kernel_rfl) (fun _ _ _ h => h) (Or.inl ⟨by rfl, ?_⟩) ?_ ?_
          rotate_left
          · intro w'
            go_simp
            with_reducible rfl
          rotate_left
          · simp only [Act.put, sa, sz, ss, i64_w, i32_w]
            rfl
          refine take_ (i := 1) (N := some 55) (v := ?_) (a' := ?_) (bb 28 3) rfl rfl (by kernel_rfl) (fun _ _ _ h => h) (Or.inl ⟨by rfl, ?_⟩) hHeld ?_ ?_
          rotate_left
          · rintro w' ⟨s1_, s2_⟩
            go_simp
            with_reducible rfl
          rotate_left
          · simp only [Act.put, sa, sz, ss, i64_w, i32_w]
            rfl
          refine one_ (i := 2) (N := some 56) (bb 28 7) rfl rfl (by kernel_rfl) (by decide) (fun K hK => ?_)
          skip
          refine goes_ Tryz.func81 (by kernel_rfl) rfl #[.string k.1] (by rfl) rfl rfl (by (simp only [List.map_toArray, List.map_cons, List.map_nil]); rfl) ?_
          refine (name_calls k.1 _).mono ?_
          rintro e_ w7 ⟨rfl, hb7⟩
          rw [HNAME.out]
          refine ⟨_, rfl, ?_⟩
          refine hK.out _ _ ⟨(hb7.cell (World.block_lt_of_cell? _ _ hHeld.1)).trans hHeld.1, hHeld.2.trans (hb7.mono hHeld.2.size)⟩ (fun hHeld => ?_)
          clear hK K
          refine norm_ (a' := ?_) ?_ ?_
          rotate_left
          · show Act.put _ (some 56) _ = _
            simp only [Act.put, sa, sz, ss, i64_w, i32_w]
            rfl
          clear hb7
          refine pure_ (i := 3) (N := some 57) (v := ?_) (a' := ?_) (bb 28 15) rfl rfl (by kernel_rfl) (fun _ _ _ h => h) (Or.inl ⟨by rfl, ?_⟩) ?_ ?_
          rotate_left
          · intro w'
            go_simp
            with_reducible rfl
          rotate_left
          · simp only [Act.put, sa, sz, ss, i64_w, i32_w]
            rfl
          refine pure_ (i := 4) (N := some 58) (v := ?_) (a' := ?_) (bb 28 31) rfl rfl (by kernel_rfl) (fun _ _ _ h => h) (Or.inl ⟨by rfl, ?_⟩) ?_ ?_
          rotate_left
          · intro w'
            go_simp
            with_reducible rfl
          rotate_left
          · simp only [Act.put, sa, sz, ss, i64_w, i32_w]
            rfl
          refine pure_ (i := 5) (N := some 59) (v := ?_) (a' := ?_) (bb 28 63) rfl rfl (by kernel_rfl) (fun _ _ _ h => h) (Or.inl ⟨by rfl, ?_⟩) ?_ ?_
          rotate_left
          · intro w'
            go_simp
            with_reducible rfl
          rotate_left
          · simp only [Act.put, sa, sz, ss, i64_w, i32_w]
            rfl
          refine pure_ (i := 6) (N := some 60) (v := ?_) (a' := ?_) (bb 28 127) rfl rfl (by kernel_rfl) (fun _ _ _ h => h) (Or.inl ⟨by rfl, ?_⟩) ?_ ?_
          rotate_left
          · intro w'
            go_simp
            with_reducible rfl
          rotate_left
          · simp only [Act.put, sa, sz, ss, i64_w, i32_w]
            rfl
          refine pure_ (i := 7) (N := some 61) (v := ?_) (a' := ?_) (bb 28 255) rfl rfl (by kernel_rfl) (fun _ _ _ h => h) (Or.inl ⟨by rfl, ?_⟩) ?_ ?_
          rotate_left
          · intro w'
            go_simp
            with_reducible rfl
          rotate_left
          · simp only [Act.put, sa, sz, ss, i64_w, i32_w]
            rfl
          refine pure_ (i := 8) (N := some 62) (v := undef) (a' := ?_) (bb 28 511) rfl rfl (by kernel_rfl) (fun _ _ _ h => h) (Or.inr ⟨by rfl, rfl⟩) ?_ ?_
          rotate_left
          · simp only [Act.put, sa, sz, ss, i64_w, i32_w]
            rfl
          refine pure_ (i := 9) (N := some 63) (v := undef) (a' := ?_) (bb 28 1023) rfl rfl (by kernel_rfl) (fun _ _ _ h => h) (Or.inr ⟨by rfl, rfl⟩) ?_ ?_
          rotate_left
          · simp only [Act.put, sa, sz, ss, i64_w, i32_w]
            rfl
          refine pure_ (i := 10) (N := some 64) (v := undef) (a' := ?_) (bb 28 2047) rfl rfl (by kernel_rfl) (fun _ _ _ h => h) (Or.inr ⟨by rfl, rfl⟩) ?_ ?_
          rotate_left
          · simp only [Act.put, sa, sz, ss, i64_w, i32_w]
            rfl
          refine pure_ (i := 11) (N := some 65) (v := undef) (a' := ?_) (bb 28 4095) rfl rfl (by kernel_rfl) (fun _ _ _ h => h) (Or.inr ⟨by rfl, rfl⟩) ?_ ?_
          rotate_left
          · simp only [Act.put, sa, sz, ss, i64_w, i32_w]
            rfl
          refine pure_ (i := 12) (N := some 66) (v := undef) (a' := ?_) (bb 28 8191) rfl rfl (by kernel_rfl) (fun _ _ _ h => h) (Or.inr ⟨by rfl, rfl⟩) ?_ ?_
          rotate_left
          · simp only [Act.put, sa, sz, ss, i64_w, i32_w]
            rfl
          refine pure_ (i := 13) (N := some 67) (v := undef) (a' := ?_) (bb 28 16383) rfl rfl (by kernel_rfl) (fun _ _ _ h => h) (Or.inr ⟨by rfl, rfl⟩) ?_ ?_
          rotate_left
          · simp only [Act.put, sa, sz, ss, i64_w, i32_w]
            rfl
          refine pure_ (i := 14) (N := some 68) (v := undef) (a' := ?_) (bb 28 32767) rfl rfl (by kernel_rfl) (fun _ _ _ h => h) (Or.inr ⟨by rfl, rfl⟩) ?_ ?_
          rotate_left
          · simp only [Act.put, sa, sz, ss, i64_w, i32_w]
            rfl
          refine pure_ (i := 15) (N := some 69) (v := undef) (a' := ?_) (bb 28 65535) rfl rfl (by kernel_rfl) (fun _ _ _ h => h) (Or.inr ⟨by rfl, rfl⟩) ?_ ?_
          rotate_left
          · simp only [Act.put, sa, sz, ss, i64_w, i32_w]
            rfl
          refine pure_ (i := 16) (N := some 70) (v := undef) (a' := ?_) (bb 28 131071) rfl rfl (by kernel_rfl) (fun _ _ _ h => h) (Or.inr ⟨by rfl, rfl⟩) ?_ ?_
          rotate_left
          · simp only [Act.put, sa, sz, ss, i64_w, i32_w]
            rfl
          refine pure_ (i := 17) (N := some 71) (v := undef) (a' := ?_) (bb 28 262143) rfl rfl (by kernel_rfl) (fun _ _ _ h => h) (Or.inr ⟨by rfl, rfl⟩) ?_ ?_
          rotate_left
          · simp only [Act.put, sa, sz, ss, i64_w, i32_w]
            rfl
          refine pure_ (i := 18) (N := some 72) (v := ?_) (a' := ?_) (bb 28 524287) rfl rfl (by kernel_rfl) (fun _ _ _ h => h) (Or.inl ⟨by rfl, ?_⟩) ?_ ?_
          rotate_left
          · intro w'
            go_simp
            with_reducible rfl
          rotate_left
          · simp only [Act.put, sa, sz, ss, i64_w, i32_w]
            rfl
          refine pure_ (i := 19) (N := some 73) (v := ?_) (a' := ?_) (bb 28 1048575) rfl rfl (by kernel_rfl) (fun _ _ _ h => h) (Or.inl ⟨by rfl, ?_⟩) ?_ ?_
          rotate_left
          · intro w'
            go_simp
            with_reducible rfl
          rotate_left
          · simp only [Act.put, sa, sz, ss, i64_w, i32_w]
            rfl
          refine pure_ (i := 20) (N := some 74) (v := ?_) (a' := ?_) (bb 28 2097151) rfl rfl (by kernel_rfl) (fun _ _ _ h => h) (Or.inl ⟨by rfl, ?_⟩) ?_ ?_
          rotate_left
          · intro w'
            go_simp
            with_reducible rfl
          rotate_left
          · simp only [Act.put, sa, sz, ss, i64_w, i32_w]
            rfl
          refine pure_ (i := 21) (N := some 75) (v := ?_) (a' := ?_) (bb 28 4194303) rfl rfl (by kernel_rfl) (fun _ _ _ h => h) (Or.inl ⟨by rfl, ?_⟩) ?_ ?_
          rotate_left
          · intro w'
            go_simp
            with_reducible rfl
          rotate_left
          · simp only [Act.put, sa, sz, ss, i64_w, i32_w]
            rfl
          refine pure_ (i := 22) (N := some 76) (v := ?_) (a' := ?_) (bb 28 8388607) rfl rfl (by kernel_rfl) (fun _ _ _ h => h) (Or.inl ⟨by rfl, ?_⟩) ?_ ?_
          rotate_left
          · intro w'
            go_simp
            with_reducible rfl
          rotate_left
          · simp only [Act.put, sa, sz, ss, i64_w, i32_w]
            rfl
          refine pure_ (i := 23) (N := some 77) (v := ?_) (a' := ?_) (bb 28 16777215) rfl rfl (by kernel_rfl) (fun _ _ _ h => h) (Or.inl ⟨by rfl, ?_⟩) ?_ ?_
          rotate_left
          · intro w'
            go_simp
            with_reducible rfl
          rotate_left
          · simp only [Act.put, sa, sz, ss, i64_w, i32_w]
            rfl
          refine pure_ (i := 24) (N := some 78) (v := ?_) (a' := ?_) (bb 28 33554431) rfl rfl (by kernel_rfl) (fun _ _ _ h => h) (Or.inl ⟨by rfl, ?_⟩) ?_ ?_
          rotate_left
          · intro w'
            go_simp
            with_reducible rfl
          rotate_left
          · simp only [Act.put, sa, sz, ss, i64_w, i32_w]
            rfl
          refine pure_ (i := 25) (N := some 79) (v := ?_) (a' := ?_) (bb 28 67108863) rfl rfl (by kernel_rfl) (fun _ _ _ h => h) (Or.inl ⟨by rfl, ?_⟩) ?_ ?_
          rotate_left
          · intro w'
            go_simp
            with_reducible rfl
          rotate_left
          · simp only [Act.put, sa, sz, ss, i64_w, i32_w]
            rfl
          refine pure_ (i := 26) (N := some 80) (v := ?_) (a' := ?_) (bb 28 134217727) rfl rfl (by kernel_rfl) (fun _ _ _ h => h) (Or.inl ⟨by rfl, ?_⟩) ?_ ?_
          rotate_left
          · intro w'
            go_simp
            with_reducible rfl
          rotate_left
          · simp only [Act.put, sa, sz, ss, i64_w, i32_w]
            rfl
          refine pure_ (i := 27) (N := some 81) (v := ?_) (a' := ?_) (bb 28 268435455) rfl rfl (by kernel_rfl) (fun _ _ _ h => h) (Or.inl ⟨by rfl, ?_⟩) ?_ ?_
          rotate_left
          · intro w'
            go_simp
            with_reducible rfl
          rotate_left
          · simp only [Act.put, sa, sz, ss, i64_w, i32_w]
            rfl
          refine done_ (by kernel_rfl) ?_
          have HBE := Aside0.mk hHeld.2
          clear hHeld hS
          go_wp2
          go_ret
          exact may_no (fun h => absurd (h.2.1 k HKM.out) HBADL.out) (HB2.out.trans ((HBW6.out.trans (HBE.out.mono HBW6.out.size)).mono HB2.out.size))
        obtain ⟨i, hi⟩ : ∃ i, j = i + 1 := ⟨j - 1, by omega⟩
        obtain ⟨k', hk'⟩ : ∃ k', l[i]? = some k' := ⟨_, List.getElem?_eq_getElem (by have := HLT.out; omega)⟩
        obtain ⟨g6, o6, hA6, -, x0, -, -⟩ := HR6.out.at hk'
        obtain ⟨rfl, rfl⟩ : g5 = g6 ∧ o5 = o6 := by simpa using hA6
        have HK' := Aside0.mk hk'
        have t1 : decide (0 < jv) = true := decide_eq_true (by have := HJV.out; omega)
        have v1 : (jv - 1).toNat = i := by have := HJV.out; omega
        have v2 : (0 : Int) ≤ jv - 1 := by have := HJV.out; omega
        have v3 : (1 : Int) ≤ jv := by omega
        have v4 : jv ≤ (l.length : Int) := by have := HJV.out; have := HLT.out; omega
        have v5 : (jv - 1 < (l.length : Int)) = True := eq_true (by omega)
        have v6 : ((0 : Int) ≤ jv - 1) = True := eq_true v2
        have v7 : ((1 : Int) ≤ jv) = True := eq_true v3
        have v8 : (jv ≤ (l.length : Int)) = True := eq_true v4
        have hS : w6.drew.cell? ⟨xb, 0, none⟩ = some (.string k.1) ∧ w6.drew.cell? ⟨wb, 2, none⟩ = some (.slice (some ⟨g5, o5, none⟩) l.length c) ∧ w6.drew.cell? ⟨g5, o5 + i * 3, none⟩ = some (.string k'.1) ∧ Below w6.heap.size w6 w6.drew := ⟨y0, p2, x0, below_drew (Below.refl _ _)⟩
        have HIJ := Aside0.mk hi
        clear hA6 hk' hj0 hi
        by_cases hbef : bytesBefore k'.1.data.toList k.1.data.toList = true
        · have hge : Op.bytesLess k'.1.toList k.1.toList = true := by rw [less_before, ByteArray.toList_eq, ByteArray.toList_eq, hbef]
          have HBEF := Aside0.mk hbef
          clear hbef
          refine start_ (n := 28) (S := fun W' => W'.cell? ⟨xb, 0, none⟩ = some (.string k.1) ∧ W'.cell? ⟨wb, 2, none⟩ = some (.slice (some ⟨g5, o5, none⟩) l.length c) ∧ W'.cell? ⟨g5, o5 + i * 3, none⟩ = some (.string k'.1) ∧ Below w6.heap.size w6 W') (ds := []) #[false, false, false, false, false, false, false, false, false, false, false, false, false, false, false, false, false, false, false, false, false, false, false, false, false, false, false, false] (by kernel_rfl) rfl rfl hS (fun hHeld => ?_)
          refine pure_ (i := 0) (N := some 54) (v := ?_) (a' := ?_) (bb 28 1) rfl rfl (by kernel_rfl) (fun _ _ _ h => h) (Or.inl ⟨by rfl, ?_⟩) ?_ ?_
          rotate_left
          · intro w'
            go_simp
            with_reducible rfl
          rotate_left
          · simp only [Act.put, sa, sz, ss, i64_w, i32_w]
            rfl
          refine take_ (i := 1) (N := some 55) (v := ?_) (a' := ?_) (bb 28 3) rfl rfl (by kernel_rfl) (fun _ _ _ h => h) (Or.inl ⟨by rfl, ?_⟩) hHeld ?_ ?_
          rotate_left
          · rintro w' ⟨s1_, s2_, s3_, s4_⟩
            go_simp
            with_reducible rfl
          rotate_left
          · simp only [Act.put, sa, sz, ss, i64_w, i32_w]
            rfl
          refine one_ (i := 2) (N := some 56) (bb 28 7) rfl rfl (by kernel_rfl) (by decide) (fun K hK => ?_)
          skip
          refine goes_ Tryz.func81 (by kernel_rfl) rfl #[.string k.1] (by rfl) rfl rfl (by (simp only [List.map_toArray, List.map_cons, List.map_nil]); rfl) ?_
          refine (name_calls k.1 _).mono ?_
          rintro e_ w7 ⟨rfl, hb7⟩
          rw [HNAME.out]
          refine ⟨_, rfl, ?_⟩
          refine hK.out _ _ ⟨(hb7.cell (World.block_lt_of_cell? _ _ hHeld.1)).trans hHeld.1, (hb7.cell (World.block_lt_of_cell? _ _ hHeld.2.1)).trans hHeld.2.1, (hb7.cell (World.block_lt_of_cell? _ _ hHeld.2.2.1)).trans hHeld.2.2.1, hHeld.2.2.2.trans (hb7.mono hHeld.2.2.2.size)⟩ (fun hHeld => ?_)
          clear hK K
          refine norm_ (a' := ?_) ?_ ?_
          rotate_left
          · show Act.put _ (some 56) _ = _
            simp only [Act.put, sa, sz, ss, i64_w, i32_w]
            rfl
          clear hb7
          refine pure_ (i := 3) (N := some 57) (v := ?_) (a' := ?_) (bb 28 15) rfl rfl (by kernel_rfl) (fun _ _ _ h => h) (Or.inl ⟨by rfl, ?_⟩) ?_ ?_
          rotate_left
          · intro w'
            go_simp
            with_reducible rfl
          rotate_left
          · simp only [Act.put, sa, sz, ss, i64_w, i32_w]
            rfl
          refine pure_ (i := 4) (N := some 58) (v := ?_) (a' := ?_) (bb 28 31) rfl rfl (by kernel_rfl) (fun _ _ _ h => h) (Or.inl ⟨by rfl, ?_⟩) ?_ ?_
          rotate_left
          · intro w'
            go_simp
            with_reducible rfl
          rotate_left
          · simp only [Act.put, sa, sz, ss, i64_w, i32_w]
            rfl
          refine pure_ (i := 5) (N := some 59) (v := ?_) (a' := ?_) (bb 28 63) rfl rfl (by kernel_rfl) (fun _ _ _ h => h) (Or.inl ⟨by rfl, ?_⟩) ?_ ?_
          rotate_left
          · intro w'
            go_simp
            with_reducible rfl
          rotate_left
          · simp only [Act.put, sa, sz, ss, i64_w, i32_w]
            rfl
          refine pure_ (i := 6) (N := some 60) (v := ?_) (a' := ?_) (bb 28 127) rfl rfl (by kernel_rfl) (fun _ _ _ h => h) (Or.inl ⟨by rfl, ?_⟩) ?_ ?_
          rotate_left
          · intro w'
            go_simp
            with_reducible rfl
          rotate_left
          · simp only [Act.put, sa, sz, ss, i64_w, i32_w]
            rfl
          refine pure_ (i := 7) (N := some 61) (v := ?_) (a' := ?_) (bb 28 255) rfl rfl (by kernel_rfl) (fun _ _ _ h => h) (Or.inl ⟨by rfl, ?_⟩) ?_ ?_
          rotate_left
          · intro w'
            go_simp
            with_reducible rfl
          rotate_left
          · simp only [Act.put, sa, sz, ss, i64_w, i32_w]
            rfl
          refine pure_ (i := 8) (N := some 62) (v := ?_) (a' := ?_) (bb 28 511) rfl rfl (by kernel_rfl) (fun _ _ _ h => h) (Or.inl ⟨by rfl, ?_⟩) ?_ ?_
          rotate_left
          · intro w'
            go_simp
            with_reducible rfl
          rotate_left
          · simp only [Act.put, sa, sz, ss, i64_w, i32_w]
            rfl
          refine take_ (i := 9) (N := some 63) (v := ?_) (a' := ?_) (bb 28 1023) rfl rfl (by kernel_rfl) (fun _ _ _ h => h) (Or.inl ⟨by rfl, ?_⟩) hHeld ?_ ?_
          rotate_left
          · rintro w' ⟨s1_, s2_, s3_, s4_⟩
            go_simp
            with_reducible rfl
          rotate_left
          · simp only [Act.put, sa, sz, ss, i64_w, i32_w]
            rfl
          refine pure_ (i := 10) (N := some 64) (v := ?_) (a' := ?_) (bb 28 2047) rfl rfl (by kernel_rfl) (fun _ _ _ h => h) (Or.inl ⟨by rfl, ?_⟩) ?_ ?_
          rotate_left
          · intro w'
            go_simp
            with_reducible rfl
          rotate_left
          · simp only [Act.put, sa, sz, ss, i64_w, i32_w]
            rfl
          refine pure_ (i := 11) (N := some 65) (v := ?_) (a' := ?_) (bb 28 4095) rfl rfl (by kernel_rfl) (fun _ _ _ h => h) (Or.inl ⟨by rfl, ?_⟩) ?_ ?_
          rotate_left
          · intro w'
            go_simp
            with_reducible rfl
          rotate_left
          · simp only [Act.put, sa, sz, ss, i64_w, i32_w]
            rfl
          refine pure_ (i := 12) (N := some 66) (v := ?_) (a' := ?_) (bb 28 8191) rfl rfl (by kernel_rfl) (fun _ _ _ h => h) (Or.inl ⟨by rfl, ?_⟩) ?_ ?_
          rotate_left
          · intro w'
            go_simp
            with_reducible rfl
          rotate_left
          · simp only [Act.put, sa, sz, ss, i64_w, i32_w]
            rfl
          refine pure_ (i := 13) (N := some 67) (v := ?_) (a' := ?_) (bb 28 16383) rfl rfl (by kernel_rfl) (fun _ _ _ h => h) (Or.inl ⟨by rfl, ?_⟩) ?_ ?_
          rotate_left
          · intro w'
            go_simp
            with_reducible rfl
          rotate_left
          · simp only [Act.put, sa, sz, ss, i64_w, i32_w]
            rfl
          refine take_ (i := 14) (N := some 68) (v := ?_) (a' := ?_) (bb 28 32767) rfl rfl (by kernel_rfl) (fun _ _ _ h => h) (Or.inl ⟨by rfl, ?_⟩) hHeld ?_ ?_
          rotate_left
          · rintro w' ⟨s1_, s2_, s3_, s4_⟩
            go_simp
            with_reducible rfl
          rotate_left
          · simp only [Act.put, sa, sz, ss, i64_w, i32_w]
            rfl
          refine pure_ (i := 15) (N := some 69) (v := ?_) (a' := ?_) (bb 28 65535) rfl rfl (by kernel_rfl) (fun _ _ _ h => h) (Or.inl ⟨by rfl, ?_⟩) ?_ ?_
          rotate_left
          · intro w'
            go_simp
            with_reducible rfl
          rotate_left
          · simp only [Act.put, sa, sz, ss, i64_w, i32_w]
            rfl
          refine take_ (i := 16) (N := some 70) (v := ?_) (a' := ?_) (bb 28 131071) rfl rfl (by kernel_rfl) (fun _ _ _ h => h) (Or.inl ⟨by rfl, ?_⟩) hHeld ?_ ?_
          rotate_left
          · rintro w' ⟨s1_, s2_, s3_, s4_⟩
            go_simp
            with_reducible rfl
          rotate_left
          · simp only [Act.put, sa, sz, ss, i64_w, i32_w]
            rfl
          refine pure_ (i := 17) (N := some 71) (v := ?_) (a' := ?_) (bb 28 262143) rfl rfl (by kernel_rfl) (fun _ _ _ h => h) (Or.inl ⟨by rfl, ?_⟩) ?_ ?_
          rotate_left
          · intro w'
            go_simp
            with_reducible rfl
          rotate_left
          · simp only [Act.put, sa, sz, ss, i64_w, i32_w]
            rfl
          refine pure_ (i := 18) (N := some 72) (v := ?_) (a' := ?_) (bb 28 524287) rfl rfl (by kernel_rfl) (fun _ _ _ h => h) (Or.inl ⟨by rfl, ?_⟩) ?_ ?_
          rotate_left
          · intro w'
            go_simp
            with_reducible rfl
          rotate_left
          · simp only [Act.put, sa, sz, ss, i64_w, i32_w]
            rfl
          refine pure_ (i := 19) (N := some 73) (v := ?_) (a' := ?_) (bb 28 1048575) rfl rfl (by kernel_rfl) (fun _ _ _ h => h) (Or.inl ⟨by rfl, ?_⟩) ?_ ?_
          rotate_left
          · intro w'
            go_simp
            with_reducible rfl
          rotate_left
          · simp only [Act.put, sa, sz, ss, i64_w, i32_w]
            rfl
          refine pure_ (i := 20) (N := some 74) (v := ?_) (a' := ?_) (bb 28 2097151) rfl rfl (by kernel_rfl) (fun _ _ _ h => h) (Or.inl ⟨by rfl, ?_⟩) ?_ ?_
          rotate_left
          · intro w'
            go_simp
            with_reducible rfl
          rotate_left
          · simp only [Act.put, sa, sz, ss, i64_w, i32_w]
            rfl
          refine pure_ (i := 21) (N := some 75) (v := ?_) (a' := ?_) (bb 28 4194303) rfl rfl (by kernel_rfl) (fun _ _ _ h => h) (Or.inl ⟨by rfl, ?_⟩) ?_ ?_
          rotate_left
          · intro w'
            go_simp
            with_reducible rfl
          rotate_left
          · simp only [Act.put, sa, sz, ss, i64_w, i32_w]
            rfl
          refine pure_ (i := 22) (N := some 76) (v := ?_) (a' := ?_) (bb 28 8388607) rfl rfl (by kernel_rfl) (fun _ _ _ h => h) (Or.inl ⟨by rfl, ?_⟩) ?_ ?_
          rotate_left
          · intro w'
            go_simp
            with_reducible rfl
          rotate_left
          · simp only [Act.put, sa, sz, ss, i64_w, i32_w]
            rfl
          refine pure_ (i := 23) (N := some 77) (v := ?_) (a' := ?_) (bb 28 16777215) rfl rfl (by kernel_rfl) (fun _ _ _ h => h) (Or.inl ⟨by rfl, ?_⟩) ?_ ?_
          rotate_left
          · intro w'
            go_simp
            with_reducible rfl
          rotate_left
          · simp only [Act.put, sa, sz, ss, i64_w, i32_w]
            rfl
          refine pure_ (i := 24) (N := some 78) (v := ?_) (a' := ?_) (bb 28 33554431) rfl rfl (by kernel_rfl) (fun _ _ _ h => h) (Or.inl ⟨by rfl, ?_⟩) ?_ ?_
          rotate_left
          · intro w'
            go_simp
            with_reducible rfl
          rotate_left
          · simp only [Act.put, sa, sz, ss, i64_w, i32_w]
            rfl
          refine pure_ (i := 25) (N := some 79) (v := ?_) (a' := ?_) (bb 28 67108863) rfl rfl (by kernel_rfl) (fun _ _ _ h => h) (Or.inl ⟨by rfl, ?_⟩) ?_ ?_
          rotate_left
          · intro w'
            go_simp
            with_reducible rfl
          rotate_left
          · simp only [Act.put, sa, sz, ss, i64_w, i32_w]
            rfl
          refine pure_ (i := 26) (N := some 80) (v := ?_) (a' := ?_) (bb 28 134217727) rfl rfl (by kernel_rfl) (fun _ _ _ h => h) (Or.inl ⟨by rfl, ?_⟩) ?_ ?_
          rotate_left
          · intro w'
            go_simp
            with_reducible rfl
          rotate_left
          · simp only [Act.put, sa, sz, ss, i64_w, i32_w]
            rfl
          refine pure_ (i := 27) (N := some 81) (v := ?_) (a' := ?_) (bb 28 268435455) rfl rfl (by kernel_rfl) (fun _ _ _ h => h) (Or.inl ⟨by rfl, ?_⟩) ?_ ?_
          rotate_left
          · intro w'
            go_simp
            with_reducible rfl
          rotate_left
          · simp only [Act.put, sa, sz, ss, i64_w, i32_w]
            rfl
          refine done_ (by kernel_rfl) ?_
          have HBE := Aside0.mk hHeld.2.2.2
          clear hHeld hS
          go_wp2
          go_ret
          exact may_no (fun h => absurd (h.2.1 k HKM.out) HBADL.out) (HB2.out.trans ((HBW6.out.trans (HBE.out.mono HBW6.out.size)).mono HB2.out.size))
        · have hge : Op.bytesLess k'.1.toList k.1.toList = false := by rw [less_before, ByteArray.toList_eq, ByteArray.toList_eq]; simpa using hbef
          have HBEF := Aside0.mk hbef
          clear hbef
          refine start_ (n := 28) (S := fun W' => W'.cell? ⟨xb, 0, none⟩ = some (.string k.1) ∧ W'.cell? ⟨wb, 2, none⟩ = some (.slice (some ⟨g5, o5, none⟩) l.length c) ∧ W'.cell? ⟨g5, o5 + i * 3, none⟩ = some (.string k'.1) ∧ Below w6.heap.size w6 W') (ds := []) #[false, false, false, false, false, false, false, false, false, false, false, false, false, false, false, false, false, false, false, false, false, false, false, false, false, false, false, false] (by kernel_rfl) rfl rfl hS (fun hHeld => ?_)
          refine pure_ (i := 0) (N := some 54) (v := ?_) (a' := ?_) (bb 28 1) rfl rfl (by kernel_rfl) (fun _ _ _ h => h) (Or.inl ⟨by rfl, ?_⟩) ?_ ?_
          rotate_left
          · intro w'
            go_simp
            with_reducible rfl
          rotate_left
          · simp only [Act.put, sa, sz, ss, i64_w, i32_w]
            rfl
          refine take_ (i := 1) (N := some 55) (v := ?_) (a' := ?_) (bb 28 3) rfl rfl (by kernel_rfl) (fun _ _ _ h => h) (Or.inl ⟨by rfl, ?_⟩) hHeld ?_ ?_
          rotate_left
          · rintro w' ⟨s1_, s2_, s3_, s4_⟩
            go_simp
            with_reducible rfl
          rotate_left
          · simp only [Act.put, sa, sz, ss, i64_w, i32_w]
            rfl
          refine one_ (i := 2) (N := some 56) (bb 28 7) rfl rfl (by kernel_rfl) (by decide) (fun K hK => ?_)
          skip
          refine goes_ Tryz.func81 (by kernel_rfl) rfl #[.string k.1] (by rfl) rfl rfl (by (simp only [List.map_toArray, List.map_cons, List.map_nil]); rfl) ?_
          refine (name_calls k.1 _).mono ?_
          rintro e_ w7 ⟨rfl, hb7⟩
          rw [HNAME.out]
          refine ⟨_, rfl, ?_⟩
          refine hK.out _ _ ⟨(hb7.cell (World.block_lt_of_cell? _ _ hHeld.1)).trans hHeld.1, (hb7.cell (World.block_lt_of_cell? _ _ hHeld.2.1)).trans hHeld.2.1, (hb7.cell (World.block_lt_of_cell? _ _ hHeld.2.2.1)).trans hHeld.2.2.1, hHeld.2.2.2.trans (hb7.mono hHeld.2.2.2.size)⟩ (fun hHeld => ?_)
          clear hK K
          refine norm_ (a' := ?_) ?_ ?_
          rotate_left
          · show Act.put _ (some 56) _ = _
            simp only [Act.put, sa, sz, ss, i64_w, i32_w]
            rfl
          clear hb7
          refine pure_ (i := 3) (N := some 57) (v := ?_) (a' := ?_) (bb 28 15) rfl rfl (by kernel_rfl) (fun _ _ _ h => h) (Or.inl ⟨by rfl, ?_⟩) ?_ ?_
          rotate_left
          · intro w'
            go_simp
            with_reducible rfl
          rotate_left
          · simp only [Act.put, sa, sz, ss, i64_w, i32_w]
            rfl
          refine pure_ (i := 4) (N := some 58) (v := ?_) (a' := ?_) (bb 28 31) rfl rfl (by kernel_rfl) (fun _ _ _ h => h) (Or.inl ⟨by rfl, ?_⟩) ?_ ?_
          rotate_left
          · intro w'
            go_simp
            with_reducible rfl
          rotate_left
          · simp only [Act.put, sa, sz, ss, i64_w, i32_w]
            rfl
          refine pure_ (i := 5) (N := some 59) (v := ?_) (a' := ?_) (bb 28 63) rfl rfl (by kernel_rfl) (fun _ _ _ h => h) (Or.inl ⟨by rfl, ?_⟩) ?_ ?_
          rotate_left
          · intro w'
            go_simp
            with_reducible rfl
          rotate_left
          · simp only [Act.put, sa, sz, ss, i64_w, i32_w]
            rfl
          refine pure_ (i := 6) (N := some 60) (v := ?_) (a' := ?_) (bb 28 127) rfl rfl (by kernel_rfl) (fun _ _ _ h => h) (Or.inl ⟨by rfl, ?_⟩) ?_ ?_
          rotate_left
          · intro w'
            go_simp
            with_reducible rfl
          rotate_left
          · simp only [Act.put, sa, sz, ss, i64_w, i32_w]
            rfl
          refine pure_ (i := 7) (N := some 61) (v := ?_) (a' := ?_) (bb 28 255) rfl rfl (by kernel_rfl) (fun _ _ _ h => h) (Or.inl ⟨by rfl, ?_⟩) ?_ ?_
          rotate_left
          · intro w'
            go_simp
            with_reducible rfl
          rotate_left
          · simp only [Act.put, sa, sz, ss, i64_w, i32_w]
            rfl
          refine pure_ (i := 8) (N := some 62) (v := ?_) (a' := ?_) (bb 28 511) rfl rfl (by kernel_rfl) (fun _ _ _ h => h) (Or.inl ⟨by rfl, ?_⟩) ?_ ?_
          rotate_left
          · intro w'
            go_simp
            with_reducible rfl
          rotate_left
          · simp only [Act.put, sa, sz, ss, i64_w, i32_w]
            rfl
          refine take_ (i := 9) (N := some 63) (v := ?_) (a' := ?_) (bb 28 1023) rfl rfl (by kernel_rfl) (fun _ _ _ h => h) (Or.inl ⟨by rfl, ?_⟩) hHeld ?_ ?_
          rotate_left
          · rintro w' ⟨s1_, s2_, s3_, s4_⟩
            go_simp
            with_reducible rfl
          rotate_left
          · simp only [Act.put, sa, sz, ss, i64_w, i32_w]
            rfl
          refine pure_ (i := 10) (N := some 64) (v := ?_) (a' := ?_) (bb 28 2047) rfl rfl (by kernel_rfl) (fun _ _ _ h => h) (Or.inl ⟨by rfl, ?_⟩) ?_ ?_
          rotate_left
          · intro w'
            go_simp
            with_reducible rfl
          rotate_left
          · simp only [Act.put, sa, sz, ss, i64_w, i32_w]
            rfl
          refine pure_ (i := 11) (N := some 65) (v := ?_) (a' := ?_) (bb 28 4095) rfl rfl (by kernel_rfl) (fun _ _ _ h => h) (Or.inl ⟨by rfl, ?_⟩) ?_ ?_
          rotate_left
          · intro w'
            go_simp
            with_reducible rfl
          rotate_left
          · simp only [Act.put, sa, sz, ss, i64_w, i32_w]
            rfl
          refine pure_ (i := 12) (N := some 66) (v := ?_) (a' := ?_) (bb 28 8191) rfl rfl (by kernel_rfl) (fun _ _ _ h => h) (Or.inl ⟨by rfl, ?_⟩) ?_ ?_
          rotate_left
          · intro w'
            go_simp
            with_reducible rfl
          rotate_left
          · simp only [Act.put, sa, sz, ss, i64_w, i32_w]
            rfl
          refine pure_ (i := 13) (N := some 67) (v := ?_) (a' := ?_) (bb 28 16383) rfl rfl (by kernel_rfl) (fun _ _ _ h => h) (Or.inl ⟨by rfl, ?_⟩) ?_ ?_
          rotate_left
          · intro w'
            go_simp
            with_reducible rfl
          rotate_left
          · simp only [Act.put, sa, sz, ss, i64_w, i32_w]
            rfl
          refine take_ (i := 14) (N := some 68) (v := ?_) (a' := ?_) (bb 28 32767) rfl rfl (by kernel_rfl) (fun _ _ _ h => h) (Or.inl ⟨by rfl, ?_⟩) hHeld ?_ ?_
          rotate_left
          · rintro w' ⟨s1_, s2_, s3_, s4_⟩
            go_simp
            with_reducible rfl
          rotate_left
          · simp only [Act.put, sa, sz, ss, i64_w, i32_w]
            rfl
          refine pure_ (i := 15) (N := some 69) (v := ?_) (a' := ?_) (bb 28 65535) rfl rfl (by kernel_rfl) (fun _ _ _ h => h) (Or.inl ⟨by rfl, ?_⟩) ?_ ?_
          rotate_left
          · intro w'
            go_simp
            with_reducible rfl
          rotate_left
          · simp only [Act.put, sa, sz, ss, i64_w, i32_w]
            rfl
          refine take_ (i := 16) (N := some 70) (v := ?_) (a' := ?_) (bb 28 131071) rfl rfl (by kernel_rfl) (fun _ _ _ h => h) (Or.inl ⟨by rfl, ?_⟩) hHeld ?_ ?_
          rotate_left
          · rintro w' ⟨s1_, s2_, s3_, s4_⟩
            go_simp
            with_reducible rfl
          rotate_left
          · simp only [Act.put, sa, sz, ss, i64_w, i32_w]
            rfl
          refine pure_ (i := 17) (N := some 71) (v := ?_) (a' := ?_) (bb 28 262143) rfl rfl (by kernel_rfl) (fun _ _ _ h => h) (Or.inl ⟨by rfl, ?_⟩) ?_ ?_
          rotate_left
          · intro w'
            go_simp
            with_reducible rfl
          rotate_left
          · simp only [Act.put, sa, sz, ss, i64_w, i32_w]
            rfl
          refine pure_ (i := 18) (N := some 72) (v := ?_) (a' := ?_) (bb 28 524287) rfl rfl (by kernel_rfl) (fun _ _ _ h => h) (Or.inl ⟨by rfl, ?_⟩) ?_ ?_
          rotate_left
          · intro w'
            go_simp
            with_reducible rfl
          rotate_left
          · simp only [Act.put, sa, sz, ss, i64_w, i32_w]
            rfl
          refine pure_ (i := 19) (N := some 73) (v := ?_) (a' := ?_) (bb 28 1048575) rfl rfl (by kernel_rfl) (fun _ _ _ h => h) (Or.inl ⟨by rfl, ?_⟩) ?_ ?_
          rotate_left
          · intro w'
            go_simp
            with_reducible rfl
          rotate_left
          · simp only [Act.put, sa, sz, ss, i64_w, i32_w]
            rfl
          refine pure_ (i := 20) (N := some 74) (v := ?_) (a' := ?_) (bb 28 2097151) rfl rfl (by kernel_rfl) (fun _ _ _ h => h) (Or.inl ⟨by rfl, ?_⟩) ?_ ?_
          rotate_left
          · intro w'
            go_simp
            with_reducible rfl
          rotate_left
          · simp only [Act.put, sa, sz, ss, i64_w, i32_w]
            rfl
          refine pure_ (i := 21) (N := some 75) (v := undef) (a' := ?_) (bb 28 4194303) rfl rfl (by kernel_rfl) (fun _ _ _ h => h) (Or.inr ⟨by rfl, rfl⟩) ?_ ?_
          rotate_left
          · simp only [Act.put, sa, sz, ss, i64_w, i32_w]
            rfl
          refine pure_ (i := 22) (N := some 76) (v := undef) (a' := ?_) (bb 28 8388607) rfl rfl (by kernel_rfl) (fun _ _ _ h => h) (Or.inr ⟨by rfl, rfl⟩) ?_ ?_
          rotate_left
          · simp only [Act.put, sa, sz, ss, i64_w, i32_w]
            rfl
          refine pure_ (i := 23) (N := some 77) (v := undef) (a' := ?_) (bb 28 16777215) rfl rfl (by kernel_rfl) (fun _ _ _ h => h) (Or.inr ⟨by rfl, rfl⟩) ?_ ?_
          rotate_left
          · simp only [Act.put, sa, sz, ss, i64_w, i32_w]
            rfl
          refine pure_ (i := 24) (N := some 78) (v := undef) (a' := ?_) (bb 28 33554431) rfl rfl (by kernel_rfl) (fun _ _ _ h => h) (Or.inr ⟨by rfl, rfl⟩) ?_ ?_
          rotate_left
          · simp only [Act.put, sa, sz, ss, i64_w, i32_w]
            rfl
          refine pure_ (i := 25) (N := some 79) (v := undef) (a' := ?_) (bb 28 67108863) rfl rfl (by kernel_rfl) (fun _ _ _ h => h) (Or.inr ⟨by rfl, rfl⟩) ?_ ?_
          rotate_left
          · simp only [Act.put, sa, sz, ss, i64_w, i32_w]
            rfl
          refine pure_ (i := 26) (N := some 80) (v := undef) (a' := ?_) (bb 28 134217727) rfl rfl (by kernel_rfl) (fun _ _ _ h => h) (Or.inr ⟨by rfl, rfl⟩) ?_ ?_
          rotate_left
          · simp only [Act.put, sa, sz, ss, i64_w, i32_w]
            rfl
          refine pure_ (i := 27) (N := some 81) (v := ?_) (a' := ?_) (bb 28 268435455) rfl rfl (by kernel_rfl) (fun _ _ _ h => h) (Or.inl ⟨by rfl, ?_⟩) ?_ ?_
          rotate_left
          · intro w'
            go_simp
            with_reducible rfl
          rotate_left
          · simp only [Act.put, sa, sz, ss, i64_w, i32_w]
            rfl
          refine done_ (by kernel_rfl) ?_
          have HBE := Aside0.mk hHeld.2.2.2
          clear hHeld hS
          go_wp2
          go_ret
          exact may_no (fun h => absurd (names_at h.2.2 HK'.out HKE.out (by have := HIJ.out; omega)) HBEF.out) (HB2.out.trans ((HBW6.out.trans (HBE.out.mono HBW6.out.size)).mono HB2.out.size))
    · have hjl : j = l.length := by have := HJ.out; omega
      have q1 : decide (jv < (l.length : Int)) = false := decide_eq_false (by have := HJV.out; omega)
      have q2 : (jv < (l.length : Int)) = False := eq_false (by have := HJV.out; omega)
      have HF : Aside0 (MayP 1 l) := ⟨⟨.inl rfl, by have := HLM.out; rwa [hjl, List.take_length] at this, by have := HNM.out; rwa [hjl, List.take_length] at this⟩⟩
      clear hjl hlt
      go_wp2
      go_ret
      exact may_yes HF.out (HB2.out.trans (HBW.out.mono HB2.out.size))
end
end Go.Proofs.YthifdofdoeaemaaGreatDoor.Wk
end
section
namespace Go.Proofs.YthifdofdoeaemaaGreatDoor.Wk
open Go.RowKit Go.Proofs.YthifdofdoeaemaaGreatDoorW.PrintWords Go.Proofs.YthifdofdoeaemaaGreatDoorW.PrintLast Go.Proofs.YthifdofdoeaemaaGreatDoorW.PrintMore
attribute [local go_sem] max2_int min2_int max_two min_two max_three min_three max_four min_four
set_option linter.unusedVariables false
set_option linter.unusedSimpArgs false
section
open Go.RowKit Go.Lib Go.Maps
def grL (l : List (Int × GO)) : GS := ⟨0, 0, l⟩
structure LoadP (next : Int) (l : List (Int × GO)) : Prop where
  some_ : 0 < l.length
  size : l.length ≤ 128
  head : ∀ x, l[0]? = some x → x.1 = 1 ∧ x.2.kind = 1
  next_ : 1 < next
  may : ∀ x ∈ l, MayP x.2.kind x.2.links
  asc : Asc l
  below : ∀ x ∈ l, x.1 < next
  closed : Closed (grL l)
  links : sumO lenO l ≤ 256
  rch : ∀ x ∈ l, Rch (grL l) x.1
  ones : ∀ x ∈ l, x.1 = 1 ∨ x.2.kind ≠ 1 ∨ sumO (cntO x.1) l = 1
def ldO (l : List (Int × GO)) (x : Int × GO) : Int × GO := (x.1, ⟨x.2.kind, x.2.links, ((sumO (cntO x.1) l : Nat) : Int), 0⟩)
def ldG (next : Int) (l : List (Int × GO)) : GS := ⟨next, ((sumO lenO l : Nat) : Int), l.map (ldO l)⟩
theorem put2_sumA {G : GS} (h : Asc G.objs) {id : Int} {o : GO} (ho : (id, o) ∈ G.objs) {x : Lk} (hl : lnk o.links x.1 = none) (j : Int) : sumO (cntO j) (put2 G id x).objs = sumO (cntO j) G.objs + (if x.2.1 = j then 1 else 0) := by
  have h1 := sumO_set (cntO j) (fun o => { o with links := putK x o.links }) h ho
  have h2 : cntO j { o with links := putK x o.links } = (if x.2.1 = j then 1 else 0) + cntO j o := cnt_put hl j
  rw [h2] at h1
  rw [put2_objs]
  rw [sumO_keep (g := cntO j) (f := fun o => { o with leads := o.leads + 1 }) (fun o => rfl)]
  omega
theorem put2_lenA {G : GS} (h : Asc G.objs) {id : Int} {o : GO} (ho : (id, o) ∈ G.objs) {x : Lk} (hl : lnk o.links x.1 = none) : sumO lenO (put2 G id x).objs = sumO lenO G.objs + 1 := by
  have h1 := sumO_set lenO (fun o => { o with links := putK x o.links }) h ho
  have h2 : lenO { o with links := putK x o.links } = lenO o + 1 := len_putK hl
  rw [h2] at h1
  rw [put2_objs]
  rw [sumO_keep (g := lenO) (f := fun o => { o with leads := o.leads + 1 }) (fun o => rfl)]
  omega
structure WSt (next : Int) (l : List (Int × GO)) (i j : Nat) (H : GS) : Prop where
  asc : Asc H.objs
  next : H.next = next
  shape : shape H.objs = upto l i j
  leads : ∀ x ∈ H.objs, x.2.leads = sumO (cntO x.1) H.objs
  count : H.count = sumO lenO H.objs
theorem wst_start {next : Int} {l : List (Int × GO)} (ha : Asc l) (h0 : 0 < l.length) : WSt next l 0 0 ⟨next, 0, l.map emptyO⟩ := by
  have hz : ∀ (f : GO → Nat), (∀ k, f (newO k) = 0) → sumO f (l.map emptyO) = 0 := fun f hf => sumO_zero_of (fun x hx => by obtain ⟨z, -, rfl⟩ := List.mem_map.1 hx; exact hf _)
  exact {
    asc := by
      show (l.map emptyO).Pairwise _
      rw [List.pairwise_map]
      exact ha.imp (fun hab => hab)
    next := rfl
    shape := upto_start h0
    leads := fun y hy => by obtain ⟨z, hz', rfl⟩ := List.mem_map.1 hy; show (0 : Int) = _; rw [hz _ (fun k => rfl)]; rfl
    count := by show (0 : Int) = _; rw [hz _ (fun k => rfl)]; rfl }
theorem wst_len {next : Int} {l : List (Int × GO)} {i j : Nat} {H : GS} (h : WSt next l i j H) {x : Int × GO} (hx : l[i]? = some x) : sumO lenO H.objs ≤ sumO lenO l := by
  have h2 : sumO lenO H.objs = sumS List.length (upto l i j) := by rw [← h.shape]; exact sum_shape List.length H.objs
  have h3 := upto_sum List.length rfl hx j
  have h4 : sumO lenO l = sumO (fun o => o.links.length) l := rfl
  have h5 : (x.2.links.take j).length ≤ x.2.links.length := by rw [List.length_take]; omega
  omega
theorem wst_link {next : Int} {l : List (Int × GO)} (ha : Asc l) (h1 : ∀ x ∈ l, 1 ≤ x.1) {i j : Nat} {H : GS} (hs : WSt next l i j H) {x : Int × GO} (hx : l[i]? = some x) {k : Lk} (hk : x.2.links[j]? = some k) (hn : Names x.2.links) (hb : sumO lenO l ≤ 100000) (ht : k.2.1 = 0 ∨ 0 < k.2.1 ∧ has l k.2.1) :
    ∃ o H2, H.at x.1 = some o ∧ putG H x.1 k = some H2 ∧ WSt next l i (j + 1) H2 := by
  obtain ⟨hj, hje⟩ := List.getElem?_eq_some_iff.1 hk
  have hup := upto_some hx j
  have hme : (x.1, x.2.kind, x.2.links.take j, (0 : Int)) ∈ shape H.objs := by rw [hs.shape, hup]; simp
  obtain ⟨y, hy, hye⟩ := List.mem_map.1 hme
  unfold shp at hye
  simp only [Prod.mk.injEq] at hye
  obtain ⟨e1, e2, e3, -⟩ := hye
  have ho : (x.1, y.2) ∈ H.objs := by rw [← e1]; exact hy
  have hbef : ∀ z ∈ x.2.links.take j, bytesBefore z.1.data.toList k.1.data.toList = true := fun z hz => by
    obtain ⟨m, hm⟩ := List.mem_iff_getElem?.1 hz
    have hmj : m < j := by
      have := (List.getElem?_eq_some_iff.1 hm).1
      rw [List.length_take] at this
      omega
    rw [List.getElem?_take_of_lt hmj] at hm
    exact names_at hn hm hk hmj
  have hlnk : lnk y.2.links k.1 = none := by rw [e3]; exact lnk_none_of (fun z hz => before_ne (hbef z hz))
  have hlen := wst_len hs hx
  have hzero : ∀ z ∈ H.objs, z.2.leads ≤ 100000 ∧ 0 ≤ z.2.leads := fun z hz => by
    have h1 := hs.leads z hz
    have h2 := sumO_cnt_le z.1 H.objs
    omega
  have hput : putG H x.1 k = some (put2 H x.1 k) := by
    have hc := hs.count
    unfold putG
    rw [at_of_mem hs.asc ho]
    simp only
    rw [if_pos ⟨by rw [e3, List.length_take]; have h9 : x.2.links.length ≤ sumO lenO l := le_sumO lenO (List.mem_of_getElem? hx); unfold bound; omega, by omega, by omega⟩]
    rcases ht with ht | ⟨ht, hh⟩
    · rw [if_neg (by omega)]
      unfold put2
      rw [ht]
      by_cases h0 : has H.objs 0
      · exfalso
        obtain ⟨q, hq⟩ := (upto_has hs.shape 0).1 h0
        have := h1 _ hq
        simp only at this
        omega
      · rw [setO_not _ (l := setO H.objs x.1 _) (fun z hz e => by
          obtain ⟨z', hz', e'⟩ := key_setO hz
          exact h0 ⟨z'.2, by rw [← e, e']; exact hz'⟩)]
    · obtain ⟨t, htm⟩ := (upto_has hs.shape k.2.1).2 hh
      rw [if_pos ht, at_setO, at_of_mem hs.asc htm]
      simp only [Option.map_some]
      have hb2 := hzero _ htm
      simp only at hb2
      rw [if_pos (by split <;> (try simp only) <;> omega)]
      rfl
  refine ⟨y.2, put2 H x.1 k, at_of_mem hs.asc ho, hput, ?_⟩
  exact {
    asc := by rw [put2_objs]; exact asc_set (asc_set hs.asc _ _) _ _
    next := hs.next
    shape := by
      rw [shape_put2, hs.shape, hup, upto_some hx, List.map_append, List.map_cons]
      have hA : ∀ e ∈ (l.take i).map fullE, e.1 ≠ x.1 := fun e he => by
        obtain ⟨z, hz, rfl⟩ := List.mem_map.1 he
        obtain ⟨m, hm⟩ := List.mem_iff_getElem?.1 hz
        have hmi : m < i := by
          have := (List.getElem?_eq_some_iff.1 hm).1
          rw [List.length_take] at this
          omega
        rw [List.getElem?_take_of_lt hmi] at hm
        obtain ⟨h1, q1⟩ := List.getElem?_eq_some_iff.1 hm
        obtain ⟨h2, q2⟩ := List.getElem?_eq_some_iff.1 hx
        have := asc_get ha hmi h2
        rw [q1, q2] at this
        show z.1 ≠ x.1
        omega
      have hB : ∀ e ∈ (l.drop (i + 1)).map bareE, e.1 ≠ x.1 := fun e he => by
        obtain ⟨z, hz, rfl⟩ := List.mem_map.1 he
        obtain ⟨m, hm⟩ := List.mem_iff_getElem?.1 hz
        rw [List.getElem?_drop] at hm
        obtain ⟨h1, q1⟩ := List.getElem?_eq_some_iff.1 hm
        obtain ⟨h2, q2⟩ := List.getElem?_eq_some_iff.1 hx
        have := asc_get ha (show i < i + 1 + m by omega) h1
        rw [q1, q2] at this
        show z.1 ≠ x.1
        omega
      rw [putE_not hA, putE_not hB]
      congr 2
      unfold putE
      rw [if_pos rfl]
      simp only
      rw [putK_end hbef, List.take_succ_eq_append_getElem hj, hje]
    leads := fun z hz => by
      obtain ⟨z', hz', f1, f2, f3, f4, f5⟩ := put2_mem hz
      have := hs.leads z' hz'
      rw [put2_sumA hs.asc ho hlnk, f5, f1]
      by_cases e : z'.1 = k.2.1
      · rw [if_pos e, if_pos e.symm]; omega
      · rw [if_neg e, if_neg (fun q => e q.symm)]; omega
    count := by rw [put2_lenA hs.asc ho hlnk]; have := hs.count; show H.count + 1 = _; omega }
theorem wst_node {next : Int} {l : List (Int × GO)} {i : Nat} {x : Int × GO} {H : GS} (hx : l[i]? = some x) (hs : WSt next l i x.2.links.length H) : WSt next l (i + 1) 0 H := ⟨hs.asc, hs.next, by rw [hs.shape, upto_next hx], hs.leads, hs.count⟩
theorem objs_of_leads {l : List (Int × GO)} (h : ∀ x ∈ l, x.2.leads = sumO (cntO x.1) l) : l = (shape l).map (recS (shape l)) := by
  conv => lhs; rw [← List.map_id l]
  show _ = (l.map shp).map _
  rw [List.map_map]
  refine List.map_congr_left (fun x hx => ?_)
  have h1 := h x hx
  have h2 : sumO (cntO x.1) l = sumS (cntL x.1) (shape l) := sum_shape (cntL x.1) l
  rw [h2] at h1
  show x = recS (shape l) (shp x)
  unfold recS shp
  simp only
  rw [← h1]
theorem shape_ld (l : List (Int × GO)) : shape (l.map (ldO l)) = l.map fullE := by
  unfold shape
  rw [List.map_map]
  rfl
theorem sum_ld (g : List Lk → Nat) (l : List (Int × GO)) : sumO (fun o => g o.links) (l.map (ldO l)) = sumO (fun o => g o.links) l := by
  rw [sum_shape, shape_ld]
  unfold sumS sumO
  rw [List.map_map]
  rfl
theorem wst_end {next : Int} {l : List (Int × GO)} {j : Nat} {H : GS} (hs : WSt next l l.length j H) : H = ldG next l := by
  have h1 := objs_of_leads hs.leads
  have hsh := hs.shape
  rw [upto_end] at hsh
  have h2 : l.map (ldO l) = (shape (l.map (ldO l))).map (recS (shape (l.map (ldO l)))) := objs_of_leads (fun x hx => by
    obtain ⟨z, hz, rfl⟩ := List.mem_map.1 hx
    show ((sumO (cntO z.1) l : Nat) : Int) = _
    rw [show sumO (cntO (ldO l z).1) (l.map (ldO l)) = sumO (cntO z.1) l from sum_ld (cntL z.1) l])
  rw [shape_ld] at h2
  rw [hsh, ← h2] at h1
  have h3 := hs.count
  have h4 := hs.next
  have h5 : sumO lenO (l.map (ldO l)) = sumO lenO l := sum_ld List.length l
  cases H
  simp only at h1 h3 h4
  unfold ldG
  rw [h4, h3, h1, h5]
theorem ld_length {next : Int} {l : List (Int × GO)} : (ldG next l).objs.length = l.length := List.length_map _
theorem ld_has {next : Int} {l : List (Int × GO)} {id : Int} : has (ldG next l).objs id ↔ has l id := by
  constructor
  · rintro ⟨o, ho⟩
    obtain ⟨z, hz, e⟩ := List.mem_map.1 ho
    have : z.1 = id := congrArg Prod.fst e
    exact ⟨z.2, by rw [← this]; exact hz⟩
  · rintro ⟨o, ho⟩
    exact ⟨(ldO l (id, o)).2, List.mem_map.2 ⟨_, ho, rfl⟩⟩
theorem ld_mem {next : Int} {l : List (Int × GO)} {y : Int × GO} (h : y ∈ (ldG next l).objs) : ∃ z ∈ l, y = ldO l z := by obtain ⟨z, hz, e⟩ := List.mem_map.1 h; exact ⟨z, hz, e.symm⟩
theorem ld_closed {next : Int} {l : List (Int × GO)} (h : ∀ x ∈ l, ∀ k ∈ x.2.links, 0 < k.2.1 → has l k.2.1) : Closed (ldG next l) := fun y hy k hk h0 => by
  obtain ⟨z, hz, rfl⟩ := ld_mem hy
  exact ld_has.2 (h z hz k hk h0)
theorem ld_links {next : Int} {l : List (Int × GO)} {y : Int × GO} (h : y ∈ (ldG next l).objs) (hc : sumO lenO l ≤ 256) : y.2.links.length ≤ 256 := by
  obtain ⟨z, hz, rfl⟩ := ld_mem h
  have : z.2.links.length ≤ sumO lenO l := le_sumO lenO hz
  show z.2.links.length ≤ 256
  omega
theorem ld_rch {next : Int} {l : List (Int × GO)} {id : Int} : Rch (ldG next l) id ↔ Rch (grL l) id := by
  constructor
  · intro h
    induction h with
    | root => exact .root
    | step _ ho hk h0 ih =>
      obtain ⟨z, hz, e⟩ := ld_mem ho
      have e1 := congrArg Prod.fst e
      have e2 := congrArg Prod.snd e
      simp only at e1 e2
      subst e1 e2
      exact Rch.step (o := z.2) ih hz hk h0
  · intro h
    induction h with
    | root => exact .root
    | step _ ho hk h0 ih => exact .step ih (List.mem_map.2 ⟨_, ho, rfl⟩) hk h0
theorem rch_in {l : List (Int × GO)} (hc : ∀ x ∈ l, ∀ k ∈ x.2.links, 0 < k.2.1 → has l k.2.1) (h1 : has l 1) {id : Int} (h : Rch (grL l) id) : has l id := by
  induction h with
  | root => exact h1
  | step _ ho hk h0 _ => exact hc _ ho _ hk h0
theorem ld_full {next : Int} {l : List (Int × GO)} (hc : ∀ x ∈ l, ∀ k ∈ x.2.links, 0 < k.2.1 → has l k.2.1) (h1 : has l 1) (ha : Asc l) {S : List (Int × GO)} (hs : Asc S) (hall : ∀ x, has S x ↔ Rch (ldG next l) x) (hr : ∀ x ∈ l, Rch (grL l) x.1) : S.length = l.length := by
  have a := sub_len hs (fun x hx => rch_in hc h1 (ld_rch.1 ((hall x).1 hx)))
  have b := sub_len ha (fun x ⟨o, ho⟩ => (hall x).2 (ld_rch.2 (hr _ ho)))
  omega
theorem ld_part {next : Int} {l : List (Int × GO)} (hc : ∀ x ∈ l, ∀ k ∈ x.2.links, 0 < k.2.1 → has l k.2.1) (h1 : has l 1) (ha : Asc l) {S : List (Int × GO)} (hs : Asc S) (hall : ∀ x, has S x ↔ Rch (ldG next l) x) (hr : ¬ ∀ x ∈ l, Rch (grL l) x.1) : ((S.length : Int) != (l.length : Int)) = true := by
  have hne : S.length ≠ l.length := fun e => hr (fun x hx => by
    apply Classical.byContradiction
    intro hn
    have h1' : ¬ has S x.1 := fun h => hn (ld_rch.1 ((hall _).1 h))
    · have h2 := nodup_sub (x.1 :: S.map (·.1)) (l.map (·.1)) (List.nodup_cons.2 ⟨fun h => by
        obtain ⟨z, hz, e2⟩ := List.mem_map.1 h
        exact h1' ⟨z.2, by rw [← e2]; exact hz⟩, asc_nodup hs⟩) (fun y hy => by
        rcases List.mem_cons.1 hy with rfl | hy
        · exact List.mem_map.2 ⟨x, hx, rfl⟩
        · obtain ⟨z, hz, e2⟩ := List.mem_map.1 hy
          obtain ⟨o, ho⟩ := rch_in hc h1 (ld_rch.1 ((hall z.1).1 ⟨z.2, hz⟩))
          exact List.mem_map.2 ⟨_, ho, e2⟩)
      rw [List.length_cons, List.length_map, List.length_map] at h2
      omega)
  simpa using (by omega : ¬ (S.length : Int) = (l.length : Int))
theorem ld_asc {next : Int} {l : List (Int × GO)} (ha : Asc l) : Asc (ldG next l).objs := by
  show (l.map (ldO l)).Pairwise _
  rw [List.pairwise_map]
  exact ha.imp (fun hab => hab)
theorem ld_ones {next : Int} {l : List (Int × GO)} (ha : Asc l) (h : ∀ id o, (ldG next l).at id = some o → id = 1 ∨ o.kind ≠ 1 ∨ o.leads = 1) : ∀ x ∈ l, x.1 = 1 ∨ x.2.kind ≠ 1 ∨ sumO (cntO x.1) l = 1 := fun x hx => by
  have hm : (x.1, (ldO l x).2) ∈ (ldG next l).objs := List.mem_map.2 ⟨x, hx, rfl⟩
  rcases h x.1 _ (at_of_mem (ld_asc ha) hm) with h1 | h1 | h1
  · exact .inl h1
  · exact .inr (.inl h1)
  · refine .inr (.inr ?_)
    have h2 : ((sumO (cntO x.1) l : Nat) : Int) = 1 := h1
    omega
theorem ld_ones_of {next : Int} {l : List (Int × GO)} (h : ∀ x ∈ l, x.1 = 1 ∨ x.2.kind ≠ 1 ∨ sumO (cntO x.1) l = 1) {id : Int} {o : GO} (ho : (ldG next l).at id = some o) : id = 1 ∨ o.kind ≠ 1 ∨ o.leads = 1 := by
  obtain ⟨z, hz, e⟩ := ld_mem (at_mem ho)
  have e1 : z.1 = id := (congrArg Prod.fst e).symm
  have e2 : o = (ldO l z).2 := congrArg Prod.snd e
  rcases h z hz with h1 | h1 | h1
  · exact .inl (e1.symm.trans h1)
  · exact .inr (.inl (by rw [e2]; exact h1))
  · refine .inr (.inr ?_)
    rw [e2]
    show ((sumO (cntO z.1) l : Nat) : Int) = 1
    omega
theorem has_of_at {G : GS} {ob : Int → Nat} {id : Int} {o : GO} (h : G.at id = some o) : Maps.has (DataW.map (H := Unit) (G.objs.map (encO ob))) (keyO id) = true := by
  rw [Maps.has_eq]
  exact List.any_eq_true.2 ⟨encO ob (id, o), List.mem_map.2 ⟨_, at_mem h, rfl⟩, by rw [show (encO ob (id, o)).1.sameKey (keyO id) = decide (id = id) from same_keyO id id]; exact decide_eq_true rfl⟩
end
end Go.Proofs.YthifdofdoeaemaaGreatDoor.Wk
end
section
namespace Go.Proofs.YthifdofdoeaemaaGreatDoor.Wk
open Go.RowKit Go.Proofs.YthifdofdoeaemaaGreatDoorW.PrintWords Go.Proofs.YthifdofdoeaemaaGreatDoorW.PrintLast Go.Proofs.YthifdofdoeaemaaGreatDoorW.PrintMore
attribute [local go_sem] max2_int min2_int max_two min_two max_three min_three max_four min_four
set_option linter.unusedVariables false
set_option linter.unusedSimpArgs false
section
open Go.RowKit Go.Lib Go.Maps Go.Proofs.YthifdofdoeaemaaGreatDoorQ
attribute [local go_sem] Oper.semAt_some
theorem obj_lays (B : GB) (G : GS) (id kind : Int) (W4 : World) (hG : GraphAt W4 B G) (hn : G.at id = none) (hwf : (Lit.int .i64 id).wf = true) (hb : G.objs.length < bound) :
    ∃ W6, (Instr.mapUpdate 71 (.map (some B.mb)) (.int .i64 id) (.pointer (some ⟨W4.heap.size + 1, 0, none⟩))).run Tryz.prog (madeW kind W4) = .ok () W6 ∧
      GraphAt W6 (B.plus id (W4.heap.size + 1) W4.heap.size) { G with objs := putO (id, newO kind) G.objs } ∧ SameOn (fun k => ¬ foot B G k) W4 W6 := by
  have hb5 := madeW_below kind W4
  have hG5 := hG.below hb5
  have hz5 : (madeW kind W4).heap.size = W4.heap.size + 2 := by simp [madeW]
  obtain ⟨W6, hr, hm, hg⟩ := hG5.objs.update (t := 71) (e := 75) (int_keyed Tryz.underlying3) Tryz.underlying71 (Nat.lt_trans hb (by decide)) (keyOf_int_mk Tryz.underlying3 hwf) (val := .pointer (some ⟨W4.heap.size + 1, 0, none⟩)) (d := .lit (.int .i64 ((W4.heap.size + 1 : Nat) : Int))) (ps := []) rfl
  have hmb : B.mb < W4.heap.size := hG.objs.lt
  have hsame : ∀ k, k ≠ B.mb → k < (madeW kind W4).heap.size → W6.heap[k]? = (madeW kind W4).heap[k]? := fun k hk hl => hg.block k hl (fun e => hk (by injection e))
  refine ⟨W6, hr, ?_, ?_⟩
  · have hm1 : W6.ownsMap Tryz.prog 3 readP B.mb (G.objs.length + 1) (.map ((putO (id, newO kind) G.objs).map (encO (B.plus id (W4.heap.size + 1) W4.heap.size).ob))) := by
      rw [← put_plus B G id (newO kind) (W4.heap.size + 1) W4.heap.size hn]
      exact hm
    have hm2 := own_tight hm1
    rw [List.length_map] at hm2
    refine hG5.plus hn hwf (newO kind) (W4.heap.size + 1) W4.heap.size (fun hf => by have := hG.foot_lt hf; omega) (fun hf => by have := hG.foot_lt hf; omega) ?_ hm2 (fun k _ hk hl => hsame k hk hl)
    unfold ObjAt
    rw [show (B.plus id (W4.heap.size + 1) W4.heap.size).ob id = W4.heap.size + 1 from upd_same _ _ _, show (B.plus id (W4.heap.size + 1) W4.heap.size).lb id = W4.heap.size from upd_same _ _ _]
    exact ⟨(hsame _ (by omega) (by omega)).trans (madeW_ob kind W4), own_same (madeW_lb kind W4) (hsame _ (by omega) (by show W4.heap.size < _; omega))⟩
  · exact (SameOn.of_below hb5).trans ⟨hg.size, fun k hk hl => hsame k (fun e => hk (.inr (.inl e))) hl, hg.os, hg.tape, hg.output⟩
theorem graph_empty (w W : World) (next : Int) (hW : W = (w.alloc (.map #[] 0)).alloc (.cells #[.int .i64 next, .map (some w.heap.size), .int .i64 0] 73 (0, 0))) :
    GraphAt W ⟨w.heap.size + 1, w.heap.size, fun _ => 0, fun _ => 0⟩ ⟨next, 0, []⟩ ∧ Below w.heap.size w W := by
  have hz : (w.alloc (.map #[] 0)).heap.size = w.heap.size + 1 := by simp
  refine ⟨⟨?_, ?_, fun x hx => (by cases hx), fun x hx => (by cases hx), fun x hx => (by cases hx), fun x hx => (by cases hx), fun x hx => (by cases hx)⟩, ?_⟩
  · rw [hW, ← hz]
    exact World.alloc_heap_new _ _
  · rw [hW]
    exact (World.ownsMap_made w _ _ _).alloc _
  · rw [hW]
    exact (below_alloc (below_alloc (Below.refl _ _) _) _)
theorem below_dn (w : World) (n : Nat) : Below w.heap.size w (w.drewN n) := ⟨rfl, rfl, rfl, Nat.le_refl _, fun _ _ => rfl⟩
theorem foot_has {B : GB} {G1 G2 : GS} {k : Nat} (h : foot B G1 k) (hh : ∀ id, has G1.objs id → has G2.objs id) : foot B G2 k := by
  rcases h with h | h | ⟨x, hx, h⟩
  · exact .inl h
  · exact .inr (.inl h)
  · obtain ⟨o, ho⟩ := hh x.1 ⟨x.2, hx⟩
    exact .inr (.inr ⟨_, ho, h⟩)
theorem has_empty {l : List (Int × GO)} {id : Int} : has (l.map emptyO) id ↔ has l id := by
  constructor
  · rintro ⟨o, ho⟩
    obtain ⟨z, hz, e⟩ := List.mem_map.1 ho
    have : z.1 = id := congrArg Prod.fst e
    exact ⟨z.2, by rw [← this]; exact hz⟩
  · rintro ⟨o, ho⟩
    exact ⟨newO o.kind, List.mem_map.2 ⟨_, ho, rfl⟩⟩
theorem seen_run {W : World} {b : Nat} {S : List (Int × GO)} (h : SeenAt W b S) {n : Nat} (hn : S.length = n) (ty : TypeId) : (Builtin.len_ #[100] ty #[.map (some b)]).run Tryz.prog W = .ok (.int .i64 (n : Int)) W := by
  have := World.ownsMap.len h Tryz.underlying100 ty
  rwa [show (Maps.size (DataW.map (List.map (encO ones) S))) = n by simp [Maps.size, hn]] at this
end
end Go.Proofs.YthifdofdoeaemaaGreatDoor.Wk
end
