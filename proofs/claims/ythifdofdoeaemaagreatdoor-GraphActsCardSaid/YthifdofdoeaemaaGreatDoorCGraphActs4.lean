-- Texts that the row GraphActs leans on, joined by wip/tools/mkclaim.py: GRSwept, GRWalk, GPGone, GFree, GPHeld, GPLive, GRFind, GRSmall, GRPut, GRSoft, GRLnk, GRAdd, GRFree, GRUnl, GRNames, GCopy
import Derived.Test.YthifdofdoeaemaaGreatDoorCGraphActs3
import Derived.Test.YthifdofdoeaemaaGreatDoorProg
import Derived.Below
import Derived.Deep.Draws
import Derived.Deep.AppendLies
import Derived.Maps.AppendAt
import Derived.OwnWalk
import Derived.Laws.BytesArg
import Derived.Laws.MakeOwn
import Derived.Laws.OwnMore
import Derived.Deep.OwnRows
import Derived.Tactics
import Derived.Lib.ConvBytes
import Derived.Laws.Slices
import Derived.WalkKit
import Derived.KernelRfl
import Derived.RowKit3
import Derived.Deep.LoopGhost
import Derived.Deep.QuietTactic
import Derived.BigQuiet
import Derived.WideLaws
import Derived.Deep.DeepCutAuto
import Derived.Deep.CutBlock
import Derived.Deep.RegionHeld3
import Derived.Laws.Rows
import Derived.Lib.AppendStr
import Derived.ArgAppend
import Derived.Laws.IdiomCopy
import Derived.OrdersHeld
import Derived.Laws.BitsLemmas
import Derived.RowKit
import Derived.WalkSpells
import Derived.Sort.LoopGhostIn
import Derived.Sort.CutIn
import Derived.Shelf.Abstract
import Derived.Shelf.RegionOpen
import Derived.OwnWalkIn
import Derived.TacticsInMore
import Derived.LoopNIn
import Derived.LoopIn
import Derived.Shelf.SlMaps.Clone
section
namespace Go.Proofs.YthifdofdoeaemaaGreatDoor.Wk
open Go.RowKit Go.Proofs.YthifdofdoeaemaaGreatDoorW.PrintWords Go.Proofs.YthifdofdoeaemaaGreatDoorW.PrintLast Go.Proofs.YthifdofdoeaemaaGreatDoorW.PrintMore
attribute [local go_sem] max2_int min2_int max_two min_two max_three min_three max_four min_four
set_option linter.unusedVariables false
set_option linter.unusedSimpArgs false
section
open Go.RowKit Go.Lib Go.Maps Go.Proofs.YthifdofdoeaemaaGreatDoorQ
attribute [local go_sem] Oper.semAt_some
structure SwSt (w0 w : World) (g : Nat) (F : Nat → Prop) (next : Int) (m : List (Int × GO)) (v : Value) (xs : List Int) (F1 : Nat → Prop) (W : World) : Prop where
  row : W.ownsRow w.heap.size 3 1 v xs.length (xs.map (.int .i64))
  mine : MineR w0 W g F1 next m
  sub : ∀ k, F k → F1 k
  sup : ∀ k, F1 k → F k ∨ w.heap.size ≤ k
  same : SameOn (fun k => ¬ F k) w W
  base : w0.heap.size ≤ w.heap.size
theorem SwSt.below {w0 w W W' : World} {g : Nat} {F F1 : Nat → Prop} {next : Int} {m : List (Int × GO)} {v : Value} {xs : List Int} (h : SwSt w0 w g F next m v xs F1 W) (hb : Below W.heap.size W W') : SwSt w0 w g F next m v xs F1 W' :=
  ⟨row_same h.row (SameOn.of_below (S := fun _ => True) hb) (fun _ _ => trivial), h.mine.step hb, h.sub, h.sup, h.same.trans (SameOn.of_below hb), h.base⟩
theorem SwSt.grow {w0 w W W' : World} {g : Nat} {F F1 : Nat → Prop} {next : Int} {m : List (Int × GO)} {v v' : Value} {xs ys : List Int} (h : SwSt w0 w g F next m v xs F1 W) (hr : W'.ownsRow w.heap.size 3 1 v' ys.length (ys.map (.int .i64))) (hg : W.grownBy W' v.ownBlock) : SwSt w0 w g F next m v' ys F1 W' := by
  have hbl : ∀ k, v.ownBlock = some k → w.heap.size ≤ k := fun k hk => (h.row.lt k hk).1
  have hz := h.mine.2.2.size
  have hz2 := h.same.size
  refine ⟨hr, ⟨h.mine.1.grown_int h.row hg, fun k hk => ⟨(h.mine.2.1 k hk).1, Nat.lt_of_lt_of_le (h.mine.2.1 k hk).2 hg.size⟩, h.mine.2.2.grown hg hz (fun k hk => Nat.le_trans h.base (hbl k hk))⟩, h.sub, h.sup, ⟨Nat.le_trans hz2 hg.size, fun k hk hl => ?_, hg.os.trans h.same.os, hg.tape.trans h.same.tape, hg.output.trans h.same.output⟩, h.base⟩
  refine (hg.block k (Nat.lt_of_lt_of_le hl hz2) (fun e => ?_)).trans (h.same.same k hk hl)
  have := hbl k e.symm
  omega
theorem SwSt.turn {w0 w W W' : World} {g : Nat} {F F1 : Nat → Prop} {next : Int} {m m' : List (Int × GO)} {v : Value} {xs : List Int} (h : SwSt w0 w g F next m v xs F1 W) (hb : Below W.heap.size W W') {u : Value} (hR : RefF (W'.setCell ⟨g, 1, none⟩ u) (fun k => F1 k ∨ (W.heap.size ≤ k ∧ k < W'.heap.size)) g next m') :
    SwSt w0 w g F next m' v xs (fun k => F1 k ∨ (W.heap.size ≤ k ∧ k < W'.heap.size)) (W'.setCell ⟨g, 1, none⟩ u) := by
  have h1 := h.below hb
  have hs : SameOn (fun k => ¬ F1 k) W (W'.setCell ⟨g, 1, none⟩ u) := (SameOn.of_below hb).trans (SameOn.setCell _ _ _ (fun hn => hn h.mine.1.1))
  obtain ⟨F2, g1, g2, g3, g4⟩ := turnR_of h.mine hs (hR.mono (fun k hk => hk.imp_right (fun a => ⟨a.1, by simpa using a.2⟩)))
  obtain ⟨h0, v0, sl, c1, -⟩ := h1.mine.1
  have hz := h.mine.2.2.size
  have hz2 := h.same.size
  refine ⟨own_move h1.row (fun k hk => Below.heap_setCell _ _ _ _ (own_apart h1.row c1 (by decide) hk)), ⟨hR, fun k hk => ?_, g1.2.2⟩, fun k hk => .inl (h.sub k hk), fun k hk => ?_, ⟨Nat.le_trans hz2 g4.size, fun k hk hl => ?_, g4.os.trans h.same.os, g4.tape.trans h.same.tape, g4.output.trans h.same.output⟩, h.base⟩
  · rcases hk with hk | hk
    · exact ⟨(h.mine.2.1 k hk).1, by have := (h.mine.2.1 k hk).2; have := hb.size; simp; omega⟩
    · exact ⟨by omega, by simpa using hk.2⟩
  · rcases hk with hk | hk
    · exact h.sup k hk
    · exact .inr (by omega)
  · refine (g4.same k (fun hf => ?_) (Nat.lt_of_lt_of_le hl hz2)).trans (h.same.same k hk hl)
    rcases h.sup k hf with h9 | h9
    · exact hk h9
    · omega
theorem SwSt.put {w0 w W : World} {g : Nat} {F F1 : Nat → Prop} {next : Int} {m : List (Int × GO)} {g3 n c : Nat} {xs : List Int} (h : SwSt w0 w g F next m (.slice (some ⟨g3, 0, none⟩) n c) xs F1 W) (hn : xs.length = n) (j : Nat) (y : Int) : SwSt w0 w g F next m (.slice (some ⟨g3, 0, none⟩) n c) (xs.set j y) F1 (W.setCell ⟨g3, j, none⟩ (.int .i64 y)) := by
  subst hn
  obtain ⟨r1, g1⟩ := h.row.stored j (.int .i64 y)
  refine h.grow ?_ g1
  rw [List.length_set, List.map_set]
  exact r1
theorem SwSt.at {w0 w W : World} {g : Nat} {F F1 : Nat → Prop} {next : Int} {m : List (Int × GO)} {g3 n c : Nat} {xs : List Int} (h : SwSt w0 w g F next m (.slice (some ⟨g3, 0, none⟩) n c) xs F1 W) {j : Nat} {y : Int} (hj : xs[j]? = some y) : W.cell? ⟨g3, j, none⟩ = some (.int .i64 y) := by
  have h1 := h.row.cells (g := g3) rfl j (.int .i64 y) (by rw [List.getElem?_map, hj]; rfl)
  rwa [Addr.add_lit, Nat.zero_add] at h1
theorem SwSt.frz {w0 w W : World} {g : Nat} {F F1 : Nat → Prop} {next : Int} {m : List (Int × GO)} {g3 n c : Nat} {xs : List Int} (h : SwSt w0 w g F next m (.slice (some ⟨g3, 0, none⟩) n c) xs F1 W) (hn : xs.length = n) (j : Nat) : W.frozen? ⟨g3, j, none⟩ = false := by
  subst hn
  exact h.row.frozenAt j
theorem rem_sum (f : GO → Nat) {l m : List (Int × GO)} {out : List Int} (h : Rem l out m) (ha : Asc l) : sumO f m ≤ sumO f l := by
  induction h with
  | nil => exact Nat.le_refl _
  | snoc h hx _ ih =>
    have := sumO_del f (rem_asc h ha) hx
    omega
theorem empty_objs (W : World) : (W.alloc (.cells #[] 106 (0, 0))).ownsRow W.heap.size 106 4 (.slice (some ⟨W.heap.size, 0, none⟩) 0 0) 0 [] := ⟨rfl, .inr ⟨_, 0, _, rfl, Nat.le_refl _, World.alloc_heap_new _ _, Nat.le_refl _, by decide, rfl, rfl⟩⟩
theorem one_int (W : World) (x : Int) : (W.alloc (.cells #[.int .i64 x] 3 (0, 0))).ownsRow W.heap.size 3 1 (.slice (some ⟨W.heap.size, 0, none⟩) 1 1) 1 [.int .i64 x] := ⟨rfl, .inr ⟨_, 1, _, rfl, Nat.le_refl _, World.alloc_heap_new _ _, Nat.le_refl _, by decide, rfl, rfl⟩⟩
set_option maxHeartbeats 32000000 in
set_option maxRecDepth 100000 in
theorem refSwept_calls (w0 w : World) (g : Nat) (F : Nat → Prop) (next : Int) (l : List (Int × GO)) (hM : MineR w0 w g F next l) (ha : Asc l) (hl : l.length ≤ 1000) (hs : sumO lenO l ≤ 1000000) :
    Calls Tryz.prog 91 #[.pointer (some ⟨g, 0, none⟩)] w fun ev w' => ∃ (v : Value) (out s : List Int) (m : List (Int × GO)), ev = .returned v ∧ w'.ownsRow w.heap.size 3 1 v s.length (s.map (.int .i64)) ∧ Rem l out m ∧ (∀ x ∈ m, ¬ Away m x) ∧ s.Perm out ∧ s.Pairwise (fun x y => x ≤ y) ∧ TurnR w0 w g F next m w' := by
  have HM := Aside0.mk hM
  have HA := Aside0.mk ha
  have HL := Aside0.mk hl
  have HSM := Aside0.mk hs
  have HST0 : Aside0 (SwSt w0 w g F next l (.slice none 0 0) [] F w) := ⟨⟨World.ownsRow_nil _ _ _ _, hM, fun _ h => h, fun _ h => .inl h, SameOn.refl _ _, hM.2.2.size⟩⟩
  clear hM ha hl hs
  go_enter Tryz.func91, Tryz.ntmps91
  go_wp2
  go_loopg [3, 4] (l.length + 1) (fun kq v3 v4 W => ∃ (out : List Int) (m : List (Int × GO)) (again : Bool) (F1 : Nat → Prop), v4 = .bool again ∧ Aside0 (Rem l out m) ∧ Aside0 (SwSt w0 w g F next m v3 out F1 W) ∧ Aside0 ((again = true ∧ m.length + 1 ≤ kq) ∨ (again = false ∧ ∀ x ∈ m, ¬ Away m x)))
  case atStart => exact ⟨[], l, true, F, rfl, ⟨.nil⟩, HST0, ⟨.inl ⟨rfl, Nat.le_refl _⟩⟩⟩
  case round =>
    obtain ⟨out, m, again, F1, rfl, HRM, HST, HAG⟩ := hrel
    have HMA := Aside0.mk (rem_asc HRM.out HA.out)
    have HML : Aside0 (m.length ≤ 1000) := ⟨by have := rem_len HRM.out HA.out; have := HL.out; omega⟩
    have HMB : Aside0 (m.length ≤ bound) := ⟨by have := HML.out; unfold bound; omega⟩
    have HMS : Aside0 (sumO lenO m ≤ 1000000000) := ⟨by have := rem_sum lenO HRM.out HA.out; have := HSM.out; omega⟩
    obtain ⟨A3, c3, hv3⟩ := own_sl4 HST.out.row
    cases again with
    | true =>
      have HKQ : Aside0 (m.length + 1 ≤ gk) := ⟨by rcases HAG.out with h | h; exact h.2; cases h.1⟩
      obtain ⟨gk0, HGK⟩ : ∃ gk0, Aside0 (gk0 = gk) := ⟨_, ⟨rfl⟩⟩
      subst hv3
      go_upto_region 6 with (fail)
      go_loopg [3, 4, 5] m.length (fun kq v3 v4 v5 W => ∃ (i : Nat) (iv : Int), v3 = .slice A3 out.length c3 ∧ v4 = .bool false ∧ v5 = .int .i64 iv ∧ Aside0 (iv = (i : Int)) ∧ Aside0 (i ≤ m.length ∧ m.length - i ≤ kq) ∧ Aside0 (∀ x ∈ m.take i, ¬ Away m x) ∧ Aside0 (Below wr.heap.size wr W))
      case atStart => exact ⟨0, 0, rfl, rfl, rfl, ⟨rfl⟩, ⟨by omega, by omega⟩, ⟨by simp⟩, ⟨Below.refl _ _⟩⟩
      case round =>
        obtain ⟨i, iv, rfl, rfl, rfl, HIV, HI, HT, HBX⟩ := hrel
        have HSTi := Aside0.mk (HST.out.below HBX.out)
        by_cases hlt : i < m.length
        rotate_left
        · have q1 : decide (iv < (m.length : Int)) = false := decide_eq_false (by have := HIV.out; omega)
          obtain ⟨A', c', hRR⟩ := HSTi.out.mine.1.R
          have c1 := hRR.c1
          have HALL : Aside0 (∀ x ∈ m, ¬ Away m x) := ⟨by have := HT.out; rw [List.take_of_length_le (by omega)] at this; exact this⟩
          clear hlt hRR
          go_wp2
          go_roundg (gk0 - 1)
          case measure => have := HKQ.out; have := HGK.out; omega
          case rel => exact ⟨out, m, false, F1, rfl, HRM, HSTi, ⟨.inr ⟨rfl, HALL.out⟩⟩⟩
        obtain ⟨x, hx⟩ : ∃ x, m[i]? = some x := ⟨_, List.getElem?_eq_getElem hlt⟩
        obtain ⟨b, c, Ax, cx, -, c1, -, -, hmc, y0, y1, y2, y3, -, -, -⟩ := HSTi.out.mine.1.at hx
        obtain ⟨W2, hW2⟩ : ∃ W2, W2 = wr.alloc (.cells #[.int .i64 x.1, .int .i64 x.2.kind, .slice Ax x.2.links.length cx, .int .i64 x.2.held] 106 (0, 0)) := ⟨_, rfl⟩
        have hb2 : Below wr.heap.size wr W2 := by rw [hW2]; exact below_alloc (Below.refl _ _) _
        have ho2 : W2.heap[wr.heap.size]? = some (.cells #[.int .i64 x.1, .int .i64 x.2.kind, .slice Ax x.2.links.length cx, .int .i64 x.2.held] 106 (0, 0)) := by rw [hW2]; exact World.alloc_heap_new _ _
        obtain ⟨ob, hob⟩ : ∃ ob, ob = wr.heap.size := ⟨_, rfl⟩
        rw [← hob] at ho2
        have z0 : W2.cell? ⟨ob, 0, none⟩ = some (.int .i64 x.1) := (blk_cell ho2 0).trans rfl
        have z3 : W2.cell? ⟨ob, 3, none⟩ = some (.int .i64 x.2.held) := (blk_cell ho2 3).trans rfl
        have q1 : decide (iv < (m.length : Int)) = true := decide_eq_true (by have := HIV.out; omega)
        have q2 : (iv < (m.length : Int)) = True := eq_true (by have := HIV.out; omega)
        have q3 : ((0 : Int) ≤ iv) = True := eq_true (by have := HIV.out; omega)
        have q4 : iv.toNat = i := by have := HIV.out; omega
        have w1_ : wrap64 (iv + 1) = iv + 1 := wrap_ok9 _ (by have := HIV.out; omega) (by have := HIV.out; have := HML.out; omega)
        have HX := Aside0.mk hx
        have HLT := Aside0.mk hlt
        have HB2 := Aside0.mk hb2
        have HW2 := Aside0.mk hW2
        have HOB := Aside0.mk hob
        have HST2 := Aside0.mk (HSTi.out.below hb2)
        have HBX2 : Aside0 (Below _ _ W2) := ⟨HBX.out.trans (hb2.mono HBX.out.size)⟩
        have HMC := Aside0.mk hmc
        have HC1 := Aside0.mk c1
        clear hx hlt hb2 ho2 hW2 hob hmc
        go_upto_region 9 with (fail)
        rw [← HW2.out, ← HOB.out]
        clear c1 y0 y1 y2 y3 q1 q2 q3 q4
        have HTK : Aside0 (¬ Away m x → ∀ z ∈ m.take (i + 1), ¬ Away m z) := ⟨fun hn z hz => by
          rw [List.take_add_one, HX.out] at hz
          rcases List.mem_append.1 hz with hz | hz
          · exact HT.out z hz
          · obtain rfl : z = x := by simpa using hz
            exact hn⟩
        obtain ⟨A', c', hRR⟩ := HST2.out.mine.1.R
        have HRR := Aside0.mk hRR
        clear hRR
        by_cases hone : x.1 = 1
        · have e0 : (x.1 != 1) = false := by simpa using hone
          have HN : Aside0 (¬ Away m x) := ⟨fun h => h.1 hone⟩
          clear hone
          go_wp2
          go_roundg (gk - 1)
          case measure => have := HI.out; have := HLT.out; omega
          case rel => exact ⟨i + 1, iv + 1, rfl, rfl, by first | rfl | rw [w1_], ⟨by have := HIV.out; omega⟩, ⟨by have := HLT.out; omega, by have := HI.out; omega⟩, ⟨HTK.out HN.out⟩, HBX2⟩
        have e0 : (x.1 != 1) = true := by simpa using hone
        by_cases hheld : x.2.held = 0
        rotate_left
        · have e1 : (x.2.held == 0) = false := by simpa using hheld
          have HN : Aside0 (¬ Away m x) := ⟨fun h => hheld h.2.1⟩
          clear hone hheld
          go_wp2
          go_roundg (gk - 1)
          case measure => have := HI.out; have := HLT.out; omega
          case rel => exact ⟨i + 1, iv + 1, rfl, rfl, by first | rfl | rw [w1_], ⟨by have := HIV.out; omega⟩, ⟨by have := HLT.out; omega, by have := HI.out; omega⟩, ⟨HTK.out HN.out⟩, HBX2⟩
        have e1 : (x.2.held == 0) = true := by simpa using hheld
        obtain ⟨cv, hcv⟩ : ∃ cv, cv = ((sumO (cntO x.1) m : Nat) : Int) := ⟨_, rfl⟩
        have HCV := Aside0.mk hcv
        clear hcv
        by_cases hlead : sumO (cntO x.1) m = 0
        rotate_left
        · have e2 : (cv == 0) = false := by have := HCV.out; simp; omega
          have HN : Aside0 (¬ Away m x) := ⟨fun h => hlead h.2.2⟩
          clear hone hheld hlead
          go_wp2_with (go_at_call 57; refine (refLeads_calls W2 g next A' c' m x.1 HRR.out HMB.out HMS.out).mono ?_; rw [← HCV.out]; rintro e_ w3 ⟨rfl, h3⟩; obtain rfl := h3.symm)
          go_roundg (gk - 1)
          case measure => have := HI.out; have := HLT.out; omega
          case rel => exact ⟨i + 1, iv + 1, rfl, rfl, by first | rfl | rw [w1_], ⟨by have := HIV.out; omega⟩, ⟨by have := HLT.out; omega, by have := HI.out; omega⟩, ⟨HTK.out HN.out⟩, HBX2⟩
        have e2 : (cv == 0) = true := by have := HCV.out; simp; omega
        have HAW : Aside0 (Away m x) := ⟨⟨hone, hheld, hlead⟩⟩
        clear hone hheld hlead
        obtain ⟨t0, ht0, hz0, hz1, hz2⟩ := info_parts (P := Tryz.prog) (e := 3) (z := .int .i64 0) (size := 1) (bytes := 8) (by kernel_rfl)
        obtain ⟨W3, hW3⟩ : ∃ W3, W3 = W2.alloc (.cells #[.int .i64 x.1] 3 (0, 0)) := ⟨_, rfl⟩
        have hb3 : Below W2.heap.size W2 W3 := by rw [hW3]; exact below_alloc (Below.refl _ _) _
        have hone3 : W3.ownsRow W2.heap.size 3 1 (.slice (some ⟨W2.heap.size, 0, none⟩) 1 1) 1 [.int .i64 x.1] := by rw [hW3]; exact one_int W2 x.1
        have HST3 := Aside0.mk (HST2.out.below hb3)
        obtain ⟨v5, w5, hr5, ho5, hg5⟩ := run_append_row (P := Tryz.prog) W3 w.heap.size W2.heap.size 32 32 3 t0 (.int .i64 0) 1 8 Tryz.underlying32 ht0 hz0 hz1 hz2 rfl (by decide) _ _ out.length 1 _ _ HST3.out.row hone3 (by simp [Value.oneCell']) (by have := rem_len HRM.out HA.out; have := HL.out; unfold maxLen; omega) (by have := rem_len HRM.out HA.out; have := HL.out; omega) HST3.out.same.size
        have hST5 : SwSt w0 w g F next m v5 (out ++ [x.1]) F1 w5 := HST3.out.grow (by rw [List.length_append, List.map_append]; exact ho5) hg5
        have HST5 := Aside0.mk hST5
        have HR5 := Aside0.mk hr5
        have HW3 := Aside0.mk hW3
        clear hone3 hr5 ho5 hg5 hST5 hb3 hW3 ht0 hz0 hz1 hz2
        go_upto_region 11 with (first
          | (go_at_call 57; refine (refLeads_calls W2 g next A' c' m x.1 HRR.out HMB.out HMS.out).mono ?_; rw [← HCV.out]; rintro e_ w3 ⟨rfl, h3⟩; obtain rfl := h3.symm)
          | (at_builtin; rw [← HW3.out]; refine wpList_append_run rfl _ _ 32 rfl rfl rfl HR5.out ?_))
        have hlm : i < m.length := HLT.out
        obtain ⟨b', c8', hc5, hmc5, herase⟩ := HST5.out.mine.1.erase HMB.out hlm
        have hE : ∀ W : World, (W.alloc (.cells #[] 106 (0, 0))).drew.ownsRow W.heap.size 106 4 (.slice (some ⟨W.heap.size, 0, none⟩) 0 0) 0 [] := fun W => own_move (empty_objs W) (fun _ _ => rfl)
        obtain ⟨A8, c8, w8, hr8, hb8, A16, c16, w16, hr16, hb16, hR16, f16, d16⟩ := herase (below_drew (below_alloc (Below.refl _ _) _)) (hE w5)
        obtain ⟨t1, ht1, hy0, hy1, hy2⟩ := info_parts (P := Tryz.prog) (e := 106) (z := .agg #[.int .i64 0, .int .i64 0, .slice none 0 0, .int .i64 0]) (size := 4) (bytes := 48) (by kernel_rfl)
        have hto := cut_to (P := Tryz.prog) 102 106 .i64 Tryz.underlying102 ht1 (some ⟨b', 0, none⟩) m.length c8' iv (by have := HIV.out; omega) (by have := HIV.out; omega) hmc5
        have hfrom := cut_from (P := Tryz.prog) 102 106 .i64 Tryz.underlying102 ht1 4 hy1 (some ⟨b', 0, none⟩) m.length c8' (iv + 1) (by have := HIV.out; omega) (by have := HIV.out; omega)
        rw [show iv.toNat = i by have := HIV.out; omega] at hto
        rw [show (iv + 1).toNat = i + 1 by have := HIV.out; omega, show (some (⟨b', 0, none⟩ : Addr)).map (·.add ((i + 1) * 4)) = some ⟨b', (i + 1) * 4, none⟩ by rw [Option.map_some, Addr.add_lit, Nat.zero_add]] at hfrom
        obtain ⟨Af, hAf⟩ : ∃ Af, Af = (if c8' = i + 1 then some (⟨b', 0, none⟩ : Addr) else some ⟨b', (i + 1) * 4, none⟩) := ⟨_, rfl⟩
        rw [← hAf] at hfrom hr16
        have HSTN := Aside0.mk (HST5.out.turn hb16 hR16)
        have HB8 := Aside0.mk hb8
        have HB16 := Aside0.mk hb16
        have HR8 := Aside0.mk hr8
        have HR16 := Aside0.mk hr16
        have HHL : Aside0 (∀ W', Below w5.heap.size w5 W' → W'.cell? ⟨g, 1, none⟩ = some (.slice (some ⟨b', 0, none⟩) m.length c8')) := ⟨fun W' hb => (hb.cell (World.block_lt_of_cell? _ _ hc5)).trans hc5⟩
        have HDEL : Aside0 (delO x.1 m = m.eraseIdx i) := ⟨delO_idx HMA.out HX.out⟩
        clear hlm hmc5 herase hE hb8 hb16 hr8 hr16 hR16 ht1 hy0 hy1 hy2 hAf z0 z3 e0 e1 e2
        refine start_ (n := 20) (S := fun w' => w'.cell? ⟨g, 1, none⟩ = some (.slice (some ⟨b', 0, none⟩) m.length c8')) (ds := [19]) #[false, false, false, false, false, false, false, false, false, false, false, false, false, false, false, false, false, false, false, false] (by kernel_rfl) rfl rfl (hc5) (fun hHeld => ?_)
        refine pure_ (i := 0) (N := some 46) (v := ?_) (a' := ?_) (bb 20 1) rfl rfl (by kernel_rfl) (fun _ _ _ h => h) (Or.inl ⟨by rfl, ?_⟩) ?_ ?_
        rotate_left
        · intro w'
          go_simp
          with_reducible rfl
        rotate_left
        · simp only [Act.put, sa, sz, ss, i64_w, i32_w]
          rfl
        refine pure_ (i := 2) (N := some 48) (v := ?_) (a' := ?_) (bb 20 5) rfl rfl (by kernel_rfl) (fun _ _ _ h => h) (Or.inl ⟨by rfl, ?_⟩) ?_ ?_
        rotate_left
        · intro w'
          go_simp
          with_reducible rfl
        rotate_left
        · simp only [Act.put, sa, sz, ss, i64_w, i32_w]
          rfl
        refine pure_ (i := 3) (N := some 49) (v := ?_) (a' := ?_) (bb 20 13) rfl rfl (by kernel_rfl) (fun _ _ _ h => h) (Or.inl ⟨by rfl, ?_⟩) ?_ ?_
        rotate_left
        · intro w'
          go_simp
          with_reducible rfl
        rotate_left
        · simp only [Act.put, sa, sz, ss, i64_w, i32_w]
          rfl
        refine pure_ (i := 4) (N := some 50) (v := ?_) (a' := ?_) (bb 20 29) rfl rfl (by kernel_rfl) (fun _ _ _ h => h) (Or.inl ⟨by rfl, ?_⟩) ?_ ?_
        rotate_left
        · intro w'
          go_simp
          with_reducible rfl
        rotate_left
        · simp only [Act.put, sa, sz, ss, i64_w, i32_w]
          rfl
        refine pure_ (i := 6) (N := some 52) (v := ?_) (a' := ?_) (bb 20 93) rfl rfl (by kernel_rfl) (fun _ _ _ h => h) (Or.inl ⟨by rfl, ?_⟩) ?_ ?_
        rotate_left
        · intro w'
          go_simp
          with_reducible rfl
        rotate_left
        · simp only [Act.put, sa, sz, ss, i64_w, i32_w]
          rfl
        refine pure_ (i := 9) (N := some 55) (v := ?_) (a' := ?_) (bb 20 605) rfl rfl (by kernel_rfl) (fun _ _ _ h => h) (Or.inl ⟨by rfl, ?_⟩) ?_ ?_
        rotate_left
        · intro w'
          go_simp
          with_reducible rfl
        rotate_left
        · simp only [Act.put, sa, sz, ss, i64_w, i32_w]
          rfl
        refine pure_ (i := 10) (N := some 56) (v := ?_) (a' := ?_) (bb 20 1629) rfl rfl (by kernel_rfl) (fun _ _ _ h => h) (Or.inl ⟨by rfl, ?_⟩) ?_ ?_
        rotate_left
        · intro w'
          go_simp
          with_reducible rfl
        rotate_left
        · simp only [Act.put, sa, sz, ss, i64_w, i32_w]
          rfl
        refine pure_ (i := 11) (N := some 57) (v := ?_) (a' := ?_) (bb 20 3677) rfl rfl (by kernel_rfl) (fun _ _ _ h => h) (Or.inl ⟨by rfl, ?_⟩) ?_ ?_
        rotate_left
        · intro w'
          go_simp
          with_reducible rfl
        rotate_left
        · simp only [Act.put, sa, sz, ss, i64_w, i32_w]
          rfl
        refine pure_ (i := 13) (N := some 59) (v := ?_) (a' := ?_) (bb 20 11869) rfl rfl (by kernel_rfl) (fun _ _ _ h => h) (Or.inl ⟨by rfl, ?_⟩) ?_ ?_
        rotate_left
        · intro w'
          go_simp
          with_reducible rfl
        rotate_left
        · simp only [Act.put, sa, sz, ss, i64_w, i32_w]
          rfl
        refine pure_ (i := 14) (N := some 60) (v := ?_) (a' := ?_) (bb 20 28253) rfl rfl (by kernel_rfl) (fun _ _ _ h => h) (Or.inl ⟨by rfl, ?_⟩) ?_ ?_
        rotate_left
        · intro w'
          go_simp
          with_reducible rfl
        rotate_left
        · simp only [Act.put, sa, sz, ss, i64_w, i32_w]
          rfl
        refine take_ (i := 5) (N := some 51) (v := ?_) (a' := ?_) (bb 20 28285) rfl rfl (by kernel_rfl) (fun _ _ _ h => h) (Or.inl ⟨by rfl, ?_⟩) hHeld ?_ ?_
        rotate_left
        · intro w' s0
          go_simp
          with_reducible rfl
        rotate_left
        · simp only [Act.put, sa, sz, ss, i64_w, i32_w]
          rfl
        refine pure_ (i := 7) (N := some 53) (v := ?_) (a' := ?_) (bb 20 28413) rfl rfl (by kernel_rfl) (fun _ _ _ h => h) (Or.inl ⟨by rfl, ?_⟩) ?_ ?_
        rotate_left
        · intro w'
          go_simp
          with_reducible rfl
        rotate_left
        · simp only [Act.put, sa, sz, ss, i64_w, i32_w]
          rfl
        refine take_ (i := 12) (N := some 58) (v := ?_) (a' := ?_) (bb 20 32509) rfl rfl (by kernel_rfl) (fun _ _ _ h => h) (Or.inl ⟨by rfl, ?_⟩) hHeld ?_ ?_
        rotate_left
        · intro w' s0
          go_simp
          with_reducible rfl
        rotate_left
        · simp only [Act.put, sa, sz, ss, i64_w, i32_w]
          rfl
        refine pure_ (i := 15) (N := some 61) (v := ?_) (a' := ?_) (bb 20 65277) rfl rfl (by kernel_rfl) (fun _ _ _ h => h) (Or.inl ⟨by rfl, ?_⟩) ?_ ?_
        rotate_left
        · intro w'
          go_simp
          with_reducible rfl
        rotate_left
        · simp only [Act.put, sa, sz, ss, i64_w, i32_w]
          rfl
        refine one_ (i := 1) (N := some 47) (bb 20 65279) rfl rfl (by kernel_rfl) (by decide) (fun K hK => ?_)
        refine value_ (w1 := ?_) (v := ?_) (by rfl) rfl ?_ ?_
        rotate_left 2
        · go_simp
          constructor
          · rfl
          · rfl
        refine hK.out _ _ (HHL.out _ (below_drew (below_alloc (Below.refl _ _) _))) (fun hHeld => ?_)
        clear hK K
        refine norm_ (a' := ?_) ?_ ?_
        rotate_left
        · show Act.put _ (some 47) _ = _
          simp only [Act.put, sa, sz, ss, i64_w, i32_w]
          rfl
        refine one_ (i := 8) (N := some 54) (bb 20 65535) rfl rfl (by kernel_rfl) (by decide) (fun K hK => ?_)
        refine step_append rfl (.tmp 47) (.tmp 53) 102 rfl rfl rfl HR8.out ?_
        refine hK.out _ _ (HHL.out _ HB8.out) (fun hHeld => ?_)
        clear hK K
        refine norm_ (a' := ?_) ?_ ?_
        rotate_left
        · show Act.put _ (some 54) _ = _
          simp only [Act.put, sa, sz, ss, i64_w, i32_w]
          rfl
        refine one_ (i := 16) (N := some 62) (bb 20 131071) rfl rfl (by kernel_rfl) (by decide) (fun K hK => ?_)
        refine step_append rfl (.tmp 54) (.tmp 61) 102 rfl rfl rfl HR16.out ?_
        refine hK.out _ _ (HHL.out _ HB16.out) (fun hHeld => ?_)
        clear hK K
        refine norm_ (a' := ?_) ?_ ?_
        rotate_left
        · show Act.put _ (some 62) _ = _
          simp only [Act.put, sa, sz, ss, i64_w, i32_w]
          rfl
        refine pure_ (i := 17) (N := some 63) (v := ?_) (a' := ?_) (bb 20 262143) rfl rfl (by kernel_rfl) (fun _ _ _ h => h) (Or.inl ⟨by rfl, ?_⟩) ?_ ?_
        rotate_left
        · intro w'
          go_simp
          with_reducible rfl
        rotate_left
        · simp only [Act.put, sa, sz, ss, i64_w, i32_w]
          rfl
        refine pure_ (i := 18) (N := some 64) (v := ?_) (a' := ?_) (bb 20 524287) rfl rfl (by kernel_rfl) (fun _ _ _ h => h) (Or.inl ⟨by rfl, ?_⟩) ?_ ?_
        rotate_left
        · intro w'
          go_simp
          with_reducible rfl
        rotate_left
        · simp only [Act.put, sa, sz, ss, i64_w, i32_w]
          rfl
        refine last_ (i := 19) (N := none) (bb 20 1048575) rfl rfl (by kernel_rfl) (by decide) (fun K hK => ?_)
        refine skip_ (w1 := ?_) (by rfl) rfl ?_ ?_
        rotate_left
        · go_simp
          rfl
        refine hK.out _ _ ?_
        clear hK K
        refine done_ (by kernel_rfl) ?_
        clear hc5 f16 d16 hto hfrom w1_
        go_wp2
        go_roundg (gk0 - 1)
        case measure => have := HKQ.out; have := HGK.out; omega
        case rel => exact ⟨out ++ [x.1], delO x.1 m, true, _, rfl, ⟨.snoc HRM.out (List.mem_of_getElem? HX.out) HAW.out⟩, ⟨by rw [HDEL.out]; exact HSTN.out⟩, ⟨.inl ⟨rfl, by have := len_del HMA.out (List.mem_of_getElem? HX.out); have := HKQ.out; have := HGK.out; omega⟩⟩⟩
    | false =>
      have HALL : Aside0 (∀ x ∈ m, ¬ Away m x) := ⟨by
        rcases HAG.out with h | h
        · cases h.1
        · exact h.2⟩
      have HOL : Aside0 (out.length ≤ 1000) := ⟨by have := rem_len HRM.out HA.out; have := HL.out; omega⟩
      obtain ⟨n, hn⟩ : ∃ n, n = out.length := ⟨_, rfl⟩
      have HN := Aside0.mk hn
      rw [← hn] at hv3
      clear hn
      subst hv3
      go_upto_region 14 with (fail)
      go_loopg [7] n (fun kq v7 W => ∃ (i : Nat) (iv : Int) (xs : List Int), v7 = .int .i64 iv ∧ Aside0 (iv = (i : Int)) ∧ Aside0 (1 ≤ i ∧ (n - i ≤ kq)) ∧ Aside0 (xs.Perm out) ∧ Aside0 ((xs.take i).Pairwise (fun x y => x ≤ y)) ∧ Aside0 (SwSt w0 w g F next m (.slice A3 n c3) xs F1 W))
      case atStart => exact ⟨1, 1, out, rfl, ⟨rfl⟩, ⟨by omega, by omega⟩, ⟨List.Perm.refl _⟩, ⟨by cases out with | nil => simp | cons a t => simp⟩, HST⟩
      case round =>
        obtain ⟨i, iv, xs, rfl, HIV, HI, HPM, HSO, HSTx⟩ := hrel
        have HXL : Aside0 (xs.length = n) := ⟨by rw [HPM.out.length_eq, HN.out]⟩
        by_cases hlt : i < n
        rotate_left
        · have q1 : decide (iv < (n : Int)) = false := decide_eq_false (by have := HIV.out; omega)
          have HSS : Aside0 (xs.Pairwise (fun x y => x ≤ y)) := ⟨by have := HSO.out; rw [List.take_of_length_le (by have := HXL.out; omega)] at this; exact this⟩
          clear hlt
          go_wp2
          go_ret
          exact ⟨_, out, xs, m, rfl, HSTx.out.row, HRM.out, HALL.out, HPM.out, HSS.out, F1, HSTx.out.mine, HSTx.out.sub, HSTx.out.sup, HSTx.out.same⟩
        have q1 : decide (iv < (n : Int)) = true := decide_eq_true (by have := HIV.out; omega)
        have w1_ : wrap64 (iv + 1) = iv + 1 := wrap_ok9 _ (by have := HIV.out; omega) (by have := HIV.out; have := HOL.out; have := HN.out; omega)
        have HLT := Aside0.mk hlt
        obtain ⟨gk0, HGK⟩ : ∃ gk0, Aside0 (gk0 = gk) := ⟨_, ⟨rfl⟩⟩
        clear hlt
        obtain ⟨g3, hg3⟩ : ∃ g3, A3 = some ⟨g3, 0, none⟩ := by
          have := HSTx.out.row
          rcases this.2 with ⟨-, h⟩ | ⟨g3, cap, cur, h, -⟩
          · have := HXL.out; have := HLT.out; omega
          · exact ⟨g3, by cases h; rfl⟩
        subst hg3
        go_upto_region 17 with (fail)
        clear q1
        go_loopg [8] (i + 1) (fun kq v8 W => ∃ (k : Nat) (kv : Int) (ys : List Int), v8 = .int .i64 kv ∧ Aside0 (kv = (k : Int)) ∧ Aside0 (k ≤ i ∧ k + 1 ≤ kq) ∧ Aside0 (ys.Perm out) ∧ Aside0 (Near ys i k) ∧ Aside0 (SwSt w0 w g F next m (.slice (some ⟨g3, 0, none⟩) n c3) ys F1 W))
        case atStart => exact ⟨i, iv, xs, rfl, HIV, ⟨Nat.le_refl _, Nat.le_refl _⟩, HPM, ⟨near_start HSO.out⟩, HSTx⟩
        case round =>
          obtain ⟨k, kv, ys, rfl, HKV, HK, HPY, HNR, HSTy⟩ := hrel
          have HYL : Aside0 (ys.length = n) := ⟨by rw [HPY.out.length_eq, HN.out]⟩
          by_cases hk0 : k = 0
          · have d1 : decide (0 < kv) = false := decide_eq_false (by have := HKV.out; omega)
            have HND : Aside0 ((ys.take (i + 1)).Pairwise (fun x y => x ≤ y)) := ⟨near_done HNR.out (.inl hk0)⟩
            clear hk0
            go_upto_region 17 with (fail)
            go_big_quiet (fail)
            have HSTq := Aside0.mk (HSTy.out.below (below_dn2 _ nq))
            clear d1
            go_wp2
            go_roundg (gk0 - 1)
            case measure => have := HI.out; have := HLT.out; have := HGK.out; omega
            case rel => exact ⟨i + 1, iv + 1, ys, by first | rfl | rw [w1_], ⟨by have := HIV.out; omega⟩, ⟨by have := HI.out; omega, by have := HI.out; have := HGK.out; omega⟩, HPY, HND, HSTq⟩
          have hkl : k < ys.length := by have := HK.out; have := HLT.out; have := HYL.out; omega
          obtain ⟨x, hx⟩ : ∃ x, ys[k - 1]? = some x := ⟨_, List.getElem?_eq_getElem (by omega)⟩
          obtain ⟨y, hy⟩ : ∃ y, ys[k]? = some y := ⟨_, List.getElem?_eq_getElem hkl⟩
          have y0 := HSTy.out.at hx
          have y1 := HSTy.out.at hy
          have d1 : decide (0 < kv) = true := decide_eq_true (by have := HKV.out; omega)
          have w2_ : wrap64 (kv - 1) = kv - 1 := wrap_ok9 _ (by have := HKV.out; omega) (by have := HKV.out; have := HK.out; have := HLT.out; have := HOL.out; have := HN.out; omega)
          have k1 : ((0 : Int) ≤ kv - 1) = True := eq_true (by have := HKV.out; omega)
          have k2 : (kv - 1 < (n : Int)) = True := eq_true (by have := HKV.out; have := HYL.out; omega)
          have k3 : (kv - 1).toNat = k - 1 := by have := HKV.out; omega
          have k7 : ((1 : Int) ≤ kv) = True := eq_true (by have := HKV.out; omega)
          have k8 : (kv ≤ (n : Int)) = True := eq_true (by have := HKV.out; have := HYL.out; omega)
          have k4 : ((0 : Int) ≤ kv) = True := eq_true (by have := HKV.out; omega)
          have k5 : (kv < (n : Int)) = True := eq_true (by have := HKV.out; have := HYL.out; omega)
          have k6 : kv.toNat = k := by have := HKV.out; omega
          have HX := Aside0.mk hx
          have HY := Aside0.mk hy
          have HK0 : Aside0 (0 < k) := ⟨by omega⟩
          have HKL := Aside0.mk hkl
          clear hx hy hk0 hkl
          by_cases hyx : y < x
          rotate_left
          · have d2 : decide (y < x) = false := decide_eq_false hyx
            have HND : Aside0 ((ys.take (i + 1)).Pairwise (fun x y => x ≤ y)) := ⟨near_done HNR.out (.inr (fun p q hp hq => by
              rw [HX.out] at hp
              rw [HY.out] at hq
              cases hp
              cases hq
              omega))⟩
            clear hyx
            go_upto_region 17 with (fail)
            go_big_quiet (fail)
            have HSTq := Aside0.mk (HSTy.out.below (below_dn2 _ nq))
            clear d1 d2 y0 y1 k1 k2 k3 k4 k5 k6 k7 k8
            go_wp2
            go_roundg (gk0 - 1)
            case measure => have := HI.out; have := HLT.out; have := HGK.out; omega
            case rel => exact ⟨i + 1, iv + 1, ys, by first | rfl | rw [w1_], ⟨by have := HIV.out; omega⟩, ⟨by have := HI.out; omega, by have := HI.out; have := HGK.out; omega⟩, HPY, HND, HSTq⟩
          have d2 : decide (y < x) = true := decide_eq_true hyx
          have HYX := Aside0.mk hyx
          clear hyx
          go_upto_region 17 with (fail)
          go_big_quiet (fail)
          obtain ⟨wq, hwq⟩ : ∃ wq, wq = wr.drewN nq := ⟨_, rfl⟩
          rw [← hwq]
          have HSTq : Aside0 (SwSt w0 w g F next m (.slice (some ⟨g3, 0, none⟩) n c3) ys F1 wq) := ⟨by rw [hwq]; exact HSTy.out.below (below_dn2 _ nq)⟩
          clear hwq y0 y1 d1 d2
          have y0 := HSTq.out.at HX.out
          have y1 := HSTq.out.at HY.out
          have hp1 := HSTq.out.put HYL.out (k - 1) y
          have hl1 : (ys.set (k - 1) y).length = n := by rw [List.length_set]; exact HYL.out
          have hp2 := hp1.put hl1 k x
          have f0 := HSTq.out.frz HYL.out (k - 1)
          have f1 := hp1.frz hl1 k
          have y2 : (wq.setCell ⟨g3, k - 1, none⟩ (.int .i64 y)).cell? ⟨g3, k, none⟩ = some (.int .i64 y) := hp1.at (by rw [List.getElem?_set_ne (by have := HK0.out; omega)]; exact HY.out)
          have HP2 := Aside0.mk hp2
          clear hp1 hp2 hl1
          go_upto_region 19 with (fail)
          refine start_ (n := 18) (S := fun w' => w'.cell? ⟨g3, k - 1, none⟩ = some (.int .i64 x) ∧ w'.cell? ⟨g3, k, none⟩ = some (.int .i64 y)) (ds := [15, 17]) #[false, false, false, false, false, false, false, false, false, false, false, false, false, false, false, false, false, false] (by kernel_rfl) rfl rfl ⟨y0, y1⟩ (fun hHeld => ?_)
          refine pure_ (i := 0) (N := some 88) (v := ?_) (a' := ?_) (bb 18 1) rfl rfl (by kernel_rfl) (fun _ _ _ h => h) (Or.inl ⟨by rfl, ?_⟩) ?_ ?_
          rotate_left
          · intro w'
            go_simp
            with_reducible rfl
          rotate_left
          · simp only [Act.put, sa, sz, ss, i64_w, i32_w]
            rfl
          refine pure_ (i := 1) (N := some 89) (v := ?_) (a' := ?_) (bb 18 3) rfl rfl (by kernel_rfl) (fun _ _ _ h => h) (Or.inl ⟨by rfl, ?_⟩) ?_ ?_
          rotate_left
          · intro w'
            go_simp
            with_reducible rfl
          rotate_left
          · simp only [Act.put, sa, sz, ss, i64_w, i32_w]
            rfl
          refine pure_ (i := 2) (N := some 90) (v := ?_) (a' := ?_) (bb 18 7) rfl rfl (by kernel_rfl) (fun _ _ _ h => h) (Or.inl ⟨by rfl, ?_⟩) ?_ ?_
          rotate_left
          · intro w'
            go_simp
            with_reducible rfl
          rotate_left
          · simp only [Act.put, sa, sz, ss, i64_w, i32_w]
            rfl
          refine pure_ (i := 3) (N := some 91) (v := ?_) (a' := ?_) (bb 18 15) rfl rfl (by kernel_rfl) (fun _ _ _ h => h) (Or.inl ⟨by rfl, ?_⟩) ?_ ?_
          rotate_left
          · intro w'
            go_simp
            with_reducible rfl
          rotate_left
          · simp only [Act.put, sa, sz, ss, i64_w, i32_w]
            rfl
          refine pure_ (i := 4) (N := some 92) (v := ?_) (a' := ?_) (bb 18 31) rfl rfl (by kernel_rfl) (fun _ _ _ h => h) (Or.inl ⟨by rfl, ?_⟩) ?_ ?_
          rotate_left
          · intro w'
            go_simp
            with_reducible rfl
          rotate_left
          · simp only [Act.put, sa, sz, ss, i64_w, i32_w]
            rfl
          refine pure_ (i := 5) (N := some 93) (v := ?_) (a' := ?_) (bb 18 63) rfl rfl (by kernel_rfl) (fun _ _ _ h => h) (Or.inl ⟨by rfl, ?_⟩) ?_ ?_
          rotate_left
          · intro w'
            go_simp
            with_reducible rfl
          rotate_left
          · simp only [Act.put, sa, sz, ss, i64_w, i32_w]
            rfl
          refine pure_ (i := 6) (N := some 94) (v := ?_) (a' := ?_) (bb 18 127) rfl rfl (by kernel_rfl) (fun _ _ _ h => h) (Or.inl ⟨by rfl, ?_⟩) ?_ ?_
          rotate_left
          · intro w'
            go_simp
            with_reducible rfl
          rotate_left
          · simp only [Act.put, sa, sz, ss, i64_w, i32_w]
            rfl
          refine pure_ (i := 7) (N := some 95) (v := ?_) (a' := ?_) (bb 18 255) rfl rfl (by kernel_rfl) (fun _ _ _ h => h) (Or.inl ⟨by rfl, ?_⟩) ?_ ?_
          rotate_left
          · intro w'
            go_simp
            with_reducible rfl
          rotate_left
          · simp only [Act.put, sa, sz, ss, i64_w, i32_w]
            rfl
          refine pure_ (i := 9) (N := some 97) (v := ?_) (a' := ?_) (bb 18 767) rfl rfl (by kernel_rfl) (fun _ _ _ h => h) (Or.inl ⟨by rfl, ?_⟩) ?_ ?_
          rotate_left
          · intro w'
            go_simp
            with_reducible rfl
          rotate_left
          · simp only [Act.put, sa, sz, ss, i64_w, i32_w]
            rfl
          refine pure_ (i := 10) (N := some 98) (v := ?_) (a' := ?_) (bb 18 1791) rfl rfl (by kernel_rfl) (fun _ _ _ h => h) (Or.inl ⟨by rfl, ?_⟩) ?_ ?_
          rotate_left
          · intro w'
            go_simp
            with_reducible rfl
          rotate_left
          · simp only [Act.put, sa, sz, ss, i64_w, i32_w]
            rfl
          refine pure_ (i := 11) (N := some 99) (v := ?_) (a' := ?_) (bb 18 3839) rfl rfl (by kernel_rfl) (fun _ _ _ h => h) (Or.inl ⟨by rfl, ?_⟩) ?_ ?_
          rotate_left
          · intro w'
            go_simp
            with_reducible rfl
          rotate_left
          · simp only [Act.put, sa, sz, ss, i64_w, i32_w]
            rfl
          refine pure_ (i := 12) (N := some 100) (v := ?_) (a' := ?_) (bb 18 7935) rfl rfl (by kernel_rfl) (fun _ _ _ h => h) (Or.inl ⟨by rfl, ?_⟩) ?_ ?_
          rotate_left
          · intro w'
            go_simp
            with_reducible rfl
          rotate_left
          · simp only [Act.put, sa, sz, ss, i64_w, i32_w]
            rfl
          refine take_ (i := 8) (N := some 96) (v := ?_) (a' := ?_) (bb 18 8191) rfl rfl (by kernel_rfl) (fun _ _ _ h => h) (Or.inl ⟨by rfl, ?_⟩) hHeld ?_ ?_
          rotate_left
          · rintro w' ⟨s0, s1⟩
            go_simp
            with_reducible rfl
          rotate_left
          · simp only [Act.put, sa, sz, ss, i64_w, i32_w]
            rfl
          refine take_ (i := 13) (N := some 101) (v := ?_) (a' := ?_) (bb 18 16383) rfl rfl (by kernel_rfl) (fun _ _ _ h => h) (Or.inl ⟨by rfl, ?_⟩) hHeld ?_ ?_
          rotate_left
          · rintro w' ⟨s0, s1⟩
            go_simp
            with_reducible rfl
          rotate_left
          · simp only [Act.put, sa, sz, ss, i64_w, i32_w]
            rfl
          refine pure_ (i := 14) (N := some 102) (v := ?_) (a' := ?_) (bb 18 32767) rfl rfl (by kernel_rfl) (fun _ _ _ h => h) (Or.inl ⟨by rfl, ?_⟩) ?_ ?_
          rotate_left
          · intro w'
            go_simp
            with_reducible rfl
          rotate_left
          · simp only [Act.put, sa, sz, ss, i64_w, i32_w]
            rfl
          refine last_ (i := 15) (N := none) (bb 18 65535) rfl rfl (by kernel_rfl) (by decide) (fun K hK => ?_)
          refine skip_ (w1 := ?_) (by rfl) rfl ?_ ?_
          rotate_left
          · go_simp
            rfl
          refine hK.out _ _ ?_
          clear hK K
          refine pure_ (i := 16) (N := some 103) (v := ?_) (a' := ?_) (bb 18 131071) rfl rfl (by kernel_rfl) (fun _ _ _ h => h) (Or.inl ⟨by rfl, ?_⟩) ?_ ?_
          rotate_left
          · intro w'
            go_simp
            with_reducible rfl
          rotate_left
          · simp only [Act.put, sa, sz, ss, i64_w, i32_w]
            rfl
          refine last_ (i := 17) (N := none) (bb 18 262143) rfl rfl (by kernel_rfl) (by decide) (fun K hK => ?_)
          refine skip_ (w1 := ?_) (by rfl) rfl ?_ ?_
          rotate_left
          · go_simp
            rfl
          refine hK.out _ _ ?_
          clear hK K
          refine done_ (by kernel_rfl) ?_
          have HPD := Aside0.mk (HP2.out.below (below_drew (Below.refl _ _)))
          have HNR2 := Aside0.mk (near_swap HNR.out HK0.out HK.out.1 (by have := HLT.out; have := HYL.out; omega) HX.out HY.out HYX.out)
          have HPY2 := Aside0.mk ((swap_perm HK0.out HX.out HY.out).trans HPY.out)
          clear y0 y1 y2 f0 f1 k1 k2 k3 k4 k5 k6 k7 k8
          go_wp2
          go_roundg (gk - 1)
          case measure => have := HK.out; have := HK0.out; omega
          case rel => exact ⟨k - 1, kv - 1, _, by first | rfl | rw [w2_], ⟨by have := HKV.out; have := HK0.out; omega⟩, ⟨by have := HK.out; omega, by have := HK.out; have := HK0.out; omega⟩, HPY2, HNR2, HPD⟩
end
end Go.Proofs.YthifdofdoeaemaaGreatDoor.Wk
end
section
namespace Go.Proofs.YthifdofdoeaemaaGreatDoor.Wk
open Go.RowKit Go.Proofs.YthifdofdoeaemaaGreatDoorW.PrintWords Go.Proofs.YthifdofdoeaemaaGreatDoorW.PrintLast Go.Proofs.YthifdofdoeaemaaGreatDoorW.PrintMore
attribute [local go_sem] max2_int min2_int max_two min_two max_three min_three max_four min_four
set_option linter.unusedVariables false
set_option linter.unusedSimpArgs false
section
open Go.RowKit Go.Lib Go.Maps Go.Proofs.YthifdofdoeaemaaGreatDoorQ
attribute [local go_sem] Oper.semAt_some
theorem ok_few {G : GS} (h : Ok G) : G.objs.length ≤ bound := by have := h.size; unfold bound; omega
theorem ok_short {G : GS} (h : Ok G) : ∀ x ∈ G.objs, x.2.links.length ≤ bound := fun x hx => by have := h.len hx; unfold bound; omega
set_option maxHeartbeats 16000000 in
set_option maxRecDepth 100000 in
theorem refWalk_calls : ∀ (n : Nat) (G : GS) (g : Nat) (A : Option Addr) (c : Nat) (An : Option Addr) (cn : Nat) (names : List ByteArray) (soft soft' : Nat) (id e sv : Int) (w : World), sv = (soft : Int) → RefR w g G.next A c G.objs → Asc G.objs → G.objs.length ≤ bound → (∀ x ∈ G.objs, x.2.links.length ≤ bound) →
    Kd.C Kd.string w An names.length names → names.length ≤ cn → soft ≤ 8 → walkG G n names soft = some (id, e, soft') →
    Calls Tryz.prog 92 #[.pointer (some ⟨g, 0, none⟩), .slice An names.length cn, .int .i64 sv] w fun ev w' =>
      ev = .returned (.tuple #[.int .i64 id, .int .i64 (soft' : Int), .int .i64 e]) ∧ Below w.heap.size w w' ∧ soft' ≤ 8
  | 0, G, g, A, c, An, cn, names, soft, soft', id, e, sv0, w, hsv, hr, ha, hb, hlb, hn, hc, hs8, h => by cases h
  | n + 1, G, g, A, c, An, cn, names, soft, soft', id, e, sv0, w, hsv, hr, ha, hb, hlb, hn, hc, hs8, h => by
    have HR := Aside0.mk hr
    have HA := Aside0.mk ha
    have HB := Aside0.mk hb
    have HLB := Aside0.mk hlb
    have HN := Aside0.mk hn
    have H := Aside0.mk h
    have IH := Aside0.mk (refWalk_calls n)
    clear hr ha hb hlb hn h
    go_enter Tryz.func92, Tryz.ntmps92
    go_wp2
    go_loopg [2, 9, 10] names.length (fun kq v2 v9 v10 W => ∃ (i : Nat) (iv cur : Int) (s : Nat) (sv : Int), v2 = .int .i64 sv ∧ v9 = .int .i64 cur ∧ v10 = .int .i64 iv ∧ Aside0 (iv = (i : Int)) ∧ Aside0 (sv = (s : Int)) ∧ Aside0 (i ≤ names.length ∧ names.length - i ≤ kq ∧ s ≤ 8) ∧
      Aside0 (walkStep G (walkG G n) (names.drop i) cur s = some (id, e, soft')) ∧ Aside0 (Below w.heap.size w W))
    case atStart => exact ⟨0, 0, 1, soft, sv0, rfl, rfl, rfl, ⟨rfl⟩, ⟨hsv⟩, ⟨Nat.zero_le _, by omega, hs8⟩, ⟨H.out⟩, ⟨Below.refl _ _⟩⟩
    case round =>
      obtain ⟨i, iv, cur, s, sv, rfl, rfl, rfl, HIV, HSV, HI, HS, HBW⟩ := hrel
      by_cases hlt : i < names.length
      · obtain ⟨x, hx⟩ : ∃ x, names[i]'hlt = x := ⟨_, rfl⟩
        have hrd : rdOf ByteArray.empty names (i : Int) = x := by simp [rdOf, List.getD_eq_getElem?_getD, List.getElem?_eq_getElem hlt, hx]
        obtain ⟨ad, e1, hc0⟩ := Kd.at_string HN.out (i : Int) (Int.natCast_nonneg i) (by omega)
        cases e1
        rw [hrd, show ((i : Int)).toNat = i from rfl] at hc0
        have HC0 := Aside0.mk hc0
        have q1 : decide (iv < (names.length : Int)) = true := decide_eq_true (by have := HIV.out; omega)
        have q2 : (iv < (names.length : Int)) = True := eq_true (by have := HIV.out; omega)
        have q3 : ((0 : Int) ≤ iv) = True := eq_true (by have := HIV.out; omega)
        have q4 : iv.toNat = i := by have := HIV.out; omega
        have w1_ : wrap64 (iv + 1) = iv + 1 := by have := Kd.C_max HN.out; have := HIV.out; unfold wrap64; omega
        have hs := HS.out
        rw [List.drop_eq_getElem_cons hlt, hx] at hs
        have HLT := Aside0.mk hlt
        clear HS hlt hc0 hrd hx
        simp only [walkStep] at hs
        cases ho : G.at cur with
        | none => rw [ho] at hs; cases hs
        | some ob =>
          rw [ho] at hs
          simp only at hs
          obtain ⟨j, hj⟩ := at_idx ho
          obtain ⟨jv, hjv⟩ : ∃ jv, jv = (j : Int) := ⟨_, rfl⟩
          have hRW := HR.out.below HBW.out
          obtain ⟨b, o, Ax, cx, hAe, -, -, x1, x2, -, -, hxr⟩ := hRW.objs.at hj
          subst hAe
          have c1 := hRW.c1
          have hjl := (List.getElem?_eq_some_iff.1 hj).1
          have j1 : (jv < (G.objs.length : Int)) = True := eq_true (by omega)
          have j2 : ((0 : Int) ≤ jv) = True := eq_true (by omega)
          have j3 : jv.toNat = j := by omega
          have HRW := Aside0.mk hRW
          have HJ := Aside0.mk hj
          have HJV := Aside0.mk hjv
          have HXR := Aside0.mk hxr
          have HOB := Aside0.mk (HLB.out _ (List.mem_of_getElem? hj))
          clear hRW hj hjv hxr hjl ho
          by_cases hk : ob.kind = 1
          rotate_left
          · rw [if_neg hk] at hs
            have hkb : (ob.kind != 1) = true := by simpa using hk
            obtain ⟨rfl, rfl, rfl⟩ : (0 : Int) = id ∧ (12 : Int) = e ∧ s = soft' := by simpa using hs
            clear hs hk
            go_upto_region 5 with (fail)
            go_big_quiet ((go_at_call 56; exact Calls.quiet_of_same (refAt_at _ g _ _ c G.objs (HRW.out.below (below_dn2 _ _)) HA.out HB.out HJ.out cur jv rfl HJV.out)))
            clear c1 x1 x2 j1 j2 j3 q4
            go_wp2
            go_ret3
            exact ⟨by rw [HSV.out]; rfl, HBW.out.trans (below_dn3 HBW.out.size), HI.out.2.2⟩
          rw [if_pos hk] at hs
          have hkb : (ob.kind != 1) = false := by simpa using hk
          have HKK := Aside0.mk hk
          clear hk
          go_upto_region 5 with (fail)
          go_big_quiet ((go_at_call 56; exact Calls.quiet_of_same (refAt_at _ g _ _ c G.objs (HRW.out.below (below_dn2 _ _)) HA.out HB.out HJ.out cur jv rfl HJV.out)))
          clear c1 x1 x2 j1 j2 j3
          obtain ⟨W1, hW1⟩ : ∃ W1, W1 = wr.drewN nq := ⟨_, rfl⟩
          rw [← hW1]
          have HBW1 : Aside0 (Below w.heap.size w W1) := ⟨by rw [hW1]; exact HBW.out.trans (below_dn3 HBW.out.size)⟩
          have HRW1 := Aside0.mk (HR.out.below HBW1.out)
          have hc1 : W1.cell? (ad.add i) = some (.string x) := (HBW1.out.cell (World.block_lt_of_cell? _ _ HC0.out)).trans HC0.out
          clear hW1
          go_upto_region 8 with (go_at_call 90; refine (refLink_calls W1 g G.next _ c G.objs HRW1.out HA.out HB.out HJ.out HOB.out cur rfl x).mono ?_; rintro e_ w3 ⟨r3, hr3, rfl, m3, hw3⟩; have HR3 := Aside0.mk hr3; have HW3 := Aside0.mk hw3; clear hr3 hw3)
          clear hc1 q1 q2 q3 q4 hkb
          have HBW3 : Aside0 (Below w.heap.size w w3) := ⟨by rw [HW3.out]; exact HBW1.out.trans (below_dn3 HBW1.out.size)⟩
          cases hln : lnk ob.links x with
          | none =>
            rw [hln] at hs
            obtain ⟨rfl, rfl, rfl⟩ : (0 : Int) = id ∧ (10 : Int) = e ∧ s = soft' := by simpa using hs
            have n3 : decide (r3 < 0) = true := by
              rcases HR3.out with ⟨q, k', -, e3, -⟩ | ⟨e3, -⟩
              · rw [hln] at e3; cases e3
              · exact decide_eq_true (by omega)
            clear hs hln
            go_wp2
            go_ret3
            exact ⟨by rw [HSV.out]; rfl, HBW3.out, HI.out.2.2⟩
          | some k =>
            rw [hln] at hs
            simp only at hs
            obtain ⟨q, hq, hrq⟩ : ∃ q : Nat, ob.links[q]? = some k ∧ r3 = (q : Int) := by
              rcases HR3.out with ⟨q, k', h1, e3, h3⟩ | ⟨-, e3⟩
              · rw [hln] at e3
                exact ⟨q, by rw [h1]; exact e3.symm, h3⟩
              · rw [hln] at e3; cases e3
            have hql := (List.getElem?_eq_some_iff.1 hq).1
            have n3 : decide (r3 < 0) = false := decide_eq_false (by omega)
            have s1 : (r3 < (ob.links.length : Int)) = True := eq_true (by omega)
            have s2 : ((0 : Int) ≤ r3) = True := eq_true (by omega)
            have s3 : r3.toNat = q := by omega
            have j1 : (jv < (G.objs.length : Int)) = True := eq_true (by have := (List.getElem?_eq_some_iff.1 HJ.out).1; have := HJV.out; omega)
            have j2 : ((0 : Int) ≤ jv) = True := eq_true (by have := HJV.out; omega)
            have j3 : jv.toNat = j := by have := HJV.out; omega
            have HRW3 := Aside0.mk (HR.out.below HBW3.out)
            obtain ⟨b', o', Ax', cx', hAe', -, -, -, x2, -, -, hxr'⟩ := HRW3.out.objs.at HJ.out
            obtain ⟨rfl, rfl⟩ : b = b' ∧ o = o' := by simpa using hAe'
            obtain ⟨b2, o2, rfl, -, k0, k1, k2⟩ := hxr'.at hq
            have c1 := HRW3.out.c1
            have HSS := Aside0.mk hs
            have HLN := Aside0.mk hln
            clear hs hln hq hrq hql hxr' hAe'
            go_upto_region 10 with (fail)
            have HRD : Aside0 (RefR w3.drew g G.next (some ⟨b, o, none⟩) c G.objs) := ⟨HRW3.out.below (below_drew (Below.refl _ _))⟩
            have HRE : Aside0 (∀ ob2, RefR (w3.alloc ob2).drew g G.next (some ⟨b, o, none⟩) c G.objs) := ⟨fun ob2 => (HRW3.out.below (below_alloc (Below.refl _ _) _)).below (below_drew (Below.refl _ _))⟩
            have HAL : Aside0 (∀ (W : World) (a : Addr) (v : Value) (o : Obj), W.cell? a = some v → (W.alloc o).cell? a = some v) := ⟨fun W a v o h => ((below_alloc (Below.refl _ _) _).cell (World.block_lt_of_cell? _ _ h)).trans h⟩
            refine start_ (n := 15) (S := fun w' => w'.cell? ⟨g, 1, none⟩ = some (.slice (some ⟨b, o, none⟩) G.objs.length c) ∧ w'.cell? ⟨b, o + j * 4 + 2, none⟩ = some (.slice (some ⟨b2, o2, none⟩) ob.links.length cx') ∧ w'.cell? ⟨b2, o2 + q * 3, none⟩ = some (.string k.1) ∧ w'.cell? ⟨b2, o2 + q * 3 + 1, none⟩ = some (.int .i64 k.2.1) ∧ w'.cell? ⟨b2, o2 + q * 3 + 2, none⟩ = some (.string k.2.2)) (ds := [14]) #[false, false, false, false, false, false, false, false, false, false, false, false, false, false, false] (by kernel_rfl) rfl rfl ⟨c1, x2, k0, k1, k2⟩ (fun hHeld => ?_)
            refine pure_ (i := 0) (N := some 47) (v := ?_) (a' := ?_) (bb 15 1) rfl rfl (by kernel_rfl) (fun _ _ _ h => h) (Or.inl ⟨by rfl, ?_⟩) ?_ ?_
            rotate_left
            · intro w'
              go_simp
              with_reducible rfl
            rotate_left
            · simp only [Act.put, sa, sz, ss, i64_w, i32_w]
              rfl
            refine pure_ (i := 1) (N := some 48) (v := ?_) (a' := ?_) (bb 15 3) rfl rfl (by kernel_rfl) (fun _ _ _ h => h) (Or.inl ⟨by rfl, ?_⟩) ?_ ?_
            rotate_left
            · intro w'
              go_simp
              with_reducible rfl
            rotate_left
            · simp only [Act.put, sa, sz, ss, i64_w, i32_w]
              rfl
            refine pure_ (i := 2) (N := some 49) (v := ?_) (a' := ?_) (bb 15 7) rfl rfl (by kernel_rfl) (fun _ _ _ h => h) (Or.inl ⟨by rfl, ?_⟩) ?_ ?_
            rotate_left
            · intro w'
              go_simp
              with_reducible rfl
            rotate_left
            · simp only [Act.put, sa, sz, ss, i64_w, i32_w]
              rfl
            refine pure_ (i := 4) (N := some 51) (v := ?_) (a' := ?_) (bb 15 23) rfl rfl (by kernel_rfl) (fun _ _ _ h => h) (Or.inl ⟨by rfl, ?_⟩) ?_ ?_
            rotate_left
            · intro w'
              go_simp
              with_reducible rfl
            rotate_left
            · simp only [Act.put, sa, sz, ss, i64_w, i32_w]
              rfl
            refine pure_ (i := 5) (N := some 52) (v := ?_) (a' := ?_) (bb 15 55) rfl rfl (by kernel_rfl) (fun _ _ _ h => h) (Or.inl ⟨by rfl, ?_⟩) ?_ ?_
            rotate_left
            · intro w'
              go_simp
              with_reducible rfl
            rotate_left
            · simp only [Act.put, sa, sz, ss, i64_w, i32_w]
              rfl
            refine pure_ (i := 10) (N := some 57) (v := ?_) (a' := ?_) (bb 15 1079) rfl rfl (by kernel_rfl) (fun _ _ _ h => h) (Or.inl ⟨by rfl, ?_⟩) ?_ ?_
            rotate_left
            · intro w'
              go_simp
              with_reducible rfl
            rotate_left
            · simp only [Act.put, sa, sz, ss, i64_w, i32_w]
              rfl
            refine take_ (i := 3) (N := some 50) (v := ?_) (a' := ?_) (bb 15 1087) rfl rfl (by kernel_rfl) (fun _ _ _ h => h) (Or.inl ⟨by rfl, ?_⟩) hHeld ?_ ?_
            rotate_left
            · rintro w' ⟨s0, s1, s2, s3, s4⟩
              go_simp
              with_reducible rfl
            rotate_left
            · simp only [Act.put, sa, sz, ss, i64_w, i32_w]
              rfl
            refine join_ (σ := Unit) 1 #[true, true, true, true, true, true, true, true, true, true, true, true, true, true, false] (fun s => [(53, .int .i64 jv), (12, .pointer (some ⟨w3.heap.size, 0, none⟩)), (54, .pointer (some ⟨b, o + j * 4, none⟩)), (55, .pointer (some ⟨b, o + j * 4 + 2, none⟩)), (56, .slice (some ⟨b2, o2, none⟩) ob.links.length cx'), (58, .pointer (some ⟨b2, o2 + q * 3, none⟩)), (59, .agg #[.string k.1, .int .i64 k.2.1, .string k.2.2])]) (fun _ w' => w' = (w3.alloc (.cells #[.string ⟨#[]⟩, .int .i64 0, .string ⟨#[]⟩] 42 (0, 0))).drew) ?_ ?_
            rotate_left
            · intro hCont
              refine two_ (i := 6) (j := 13) (Ni := some 53) (Nj := some 12) #[true, true, true, true, true, true, true, false, false, false, true, false, false, false, false] #[true, true, true, true, true, true, false, false, false, false, true, false, false, true, false] rfl rfl rfl rfl (by kernel_rfl) (by decide) (by decide) (fun K hK => ?_) (fun K hK => ?_)
              · skip
                refine goes_ Tryz.func56 (by kernel_rfl) rfl #[.pointer (some ⟨g, 0, none⟩), .int .i64 cur] (by rfl) rfl rfl (by simp only [List.map_toArray, List.map_cons, List.map_nil]; rfl) ?_
                with_reducible refine (refAt_at _ g G.next _ c G.objs (by first | exact HRD.out | exact HRE.out _) HA.out HB.out HJ.out cur jv rfl HJV.out).mono ?_
                rintro e_ w_ ⟨rfl, h_⟩
                refine ⟨_, rfl, ?_⟩
                subst h_
                refine hK.out _ _ ⟨hHeld.1, hHeld.2.1, hHeld.2.2.1, hHeld.2.2.2.1, hHeld.2.2.2.2⟩ (fun hHeld => ?_)
                clear hK K
                refine norm_ (a' := ?_) ?_ ?_
                rotate_left
                · show Act.put _ (some 53) _ = _
                  simp only [Act.put, sa, sz, ss, i64_w, i32_w]
                  rfl
                refine pure_ (i := 7) (N := some 54) (v := ?_) (a' := ?_) (bb 15 1279) rfl rfl (by kernel_rfl) (fun _ _ _ h => h) (Or.inl ⟨by rfl, ?_⟩) ?_ ?_
                rotate_left
                · intro w'
                  go_simp
                  with_reducible rfl
                rotate_left
                · simp only [Act.put, sa, sz, ss, i64_w, i32_w]
                  rfl
                refine pure_ (i := 8) (N := some 55) (v := ?_) (a' := ?_) (bb 15 1535) rfl rfl (by kernel_rfl) (fun _ _ _ h => h) (Or.inl ⟨by rfl, ?_⟩) ?_ ?_
                rotate_left
                · intro w'
                  go_simp
                  with_reducible rfl
                rotate_left
                · simp only [Act.put, sa, sz, ss, i64_w, i32_w]
                  rfl
                refine take_ (i := 9) (N := some 56) (v := ?_) (a' := ?_) (bb 15 2047) rfl rfl (by kernel_rfl) (fun _ _ _ h => h) (Or.inl ⟨by rfl, ?_⟩) hHeld ?_ ?_
                rotate_left
                · rintro w' ⟨s0, s1, s2, s3, s4⟩
                  go_simp
                  with_reducible rfl
                rotate_left
                · simp only [Act.put, sa, sz, ss, i64_w, i32_w]
                  rfl
                refine pure_ (i := 11) (N := some 58) (v := ?_) (a' := ?_) (bb 15 4095) rfl rfl (by kernel_rfl) (fun _ _ _ h => h) (Or.inl ⟨by rfl, ?_⟩) ?_ ?_
                rotate_left
                · intro w'
                  go_simp
                  with_reducible rfl
                rotate_left
                · simp only [Act.put, sa, sz, ss, i64_w, i32_w]
                  rfl
                refine take_ (i := 12) (N := some 59) (v := ?_) (a' := ?_) (bb 15 8191) rfl rfl (by kernel_rfl) (fun _ _ _ h => h) (Or.inl ⟨by rfl, ?_⟩) hHeld ?_ ?_
                rotate_left
                · rintro w' ⟨s0, s1, s2, s3, s4⟩
                  go_simp
                  with_reducible rfl
                rotate_left
                · simp only [Act.put, sa, sz, ss, i64_w, i32_w]
                  rfl
                refine one_ (i := 13) (N := some 12) (bb 15 16383) rfl rfl (by kernel_rfl) (by decide) (fun K hK => ?_)
                refine value_ (w1 := ?_) (v := ?_) (by rfl) rfl ?_ ?_
                rotate_left 2
                · go_simp
                  constructor
                  · rfl
                  · rfl
                refine hK.out _ _ ⟨HAL.out _ _ _ _ hHeld.1, HAL.out _ _ _ _ hHeld.2.1, HAL.out _ _ _ _ hHeld.2.2.1, HAL.out _ _ _ _ hHeld.2.2.2.1, HAL.out _ _ _ _ hHeld.2.2.2.2⟩ (fun hHeld => ?_)
                clear hK K
                refine norm_ (a' := ?_) ?_ ?_
                rotate_left
                · show Act.put _ (some 12) _ = _
                  simp only [Act.put, sa, sz, ss, i64_w, i32_w]
                  rfl
                exact norm_ (by simp only [putAll, Act.put, List.setIfInBounds_toArray, List.set_cons_zero, List.set_cons_succ]) (hCont () _ rfl)
              · skip
                refine value_ (w1 := ?_) (v := ?_) (by rfl) rfl ?_ ?_
                rotate_left 2
                · go_simp
                  constructor
                  · rfl
                  · rfl
                refine hK.out _ _ ⟨HAL.out _ _ _ _ hHeld.1, HAL.out _ _ _ _ hHeld.2.1, HAL.out _ _ _ _ hHeld.2.2.1, HAL.out _ _ _ _ hHeld.2.2.2.1, HAL.out _ _ _ _ hHeld.2.2.2.2⟩ (fun hHeld => ?_)
                clear hK K
                refine norm_ (a' := ?_) ?_ ?_
                rotate_left
                · show Act.put _ (some 12) _ = _
                  simp only [Act.put, sa, sz, ss, i64_w, i32_w]
                  rfl
                refine one_ (i := 6) (N := some 53) (bb 15 9343) rfl rfl (by kernel_rfl) (by decide) (fun K hK => ?_)
                refine goes_ Tryz.func56 (by kernel_rfl) rfl #[.pointer (some ⟨g, 0, none⟩), .int .i64 cur] (by rfl) rfl rfl (by simp only [List.map_toArray, List.map_cons, List.map_nil]; rfl) ?_
                with_reducible refine (refAt_at _ g G.next _ c G.objs (by first | exact HRD.out | exact HRE.out _) HA.out HB.out HJ.out cur jv rfl HJV.out).mono ?_
                rintro e_ w_ ⟨rfl, h_⟩
                refine ⟨_, rfl, ?_⟩
                subst h_
                refine hK.out _ _ ⟨hHeld.1, hHeld.2.1, hHeld.2.2.1, hHeld.2.2.2.1, hHeld.2.2.2.2⟩ (fun hHeld => ?_)
                clear hK K
                refine norm_ (a' := ?_) ?_ ?_
                rotate_left
                · show Act.put _ (some 53) _ = _
                  simp only [Act.put, sa, sz, ss, i64_w, i32_w]
                  rfl
                refine pure_ (i := 7) (N := some 54) (v := ?_) (a' := ?_) (bb 15 9471) rfl rfl (by kernel_rfl) (fun _ _ _ h => h) (Or.inl ⟨by rfl, ?_⟩) ?_ ?_
                rotate_left
                · intro w'
                  go_simp
                  with_reducible rfl
                rotate_left
                · simp only [Act.put, sa, sz, ss, i64_w, i32_w]
                  rfl
                refine pure_ (i := 8) (N := some 55) (v := ?_) (a' := ?_) (bb 15 9727) rfl rfl (by kernel_rfl) (fun _ _ _ h => h) (Or.inl ⟨by rfl, ?_⟩) ?_ ?_
                rotate_left
                · intro w'
                  go_simp
                  with_reducible rfl
                rotate_left
                · simp only [Act.put, sa, sz, ss, i64_w, i32_w]
                  rfl
                refine take_ (i := 9) (N := some 56) (v := ?_) (a' := ?_) (bb 15 10239) rfl rfl (by kernel_rfl) (fun _ _ _ h => h) (Or.inl ⟨by rfl, ?_⟩) hHeld ?_ ?_
                rotate_left
                · rintro w' ⟨s0, s1, s2, s3, s4⟩
                  go_simp
                  with_reducible rfl
                rotate_left
                · simp only [Act.put, sa, sz, ss, i64_w, i32_w]
                  rfl
                refine pure_ (i := 11) (N := some 58) (v := ?_) (a' := ?_) (bb 15 12287) rfl rfl (by kernel_rfl) (fun _ _ _ h => h) (Or.inl ⟨by rfl, ?_⟩) ?_ ?_
                rotate_left
                · intro w'
                  go_simp
                  with_reducible rfl
                rotate_left
                · simp only [Act.put, sa, sz, ss, i64_w, i32_w]
                  rfl
                refine take_ (i := 12) (N := some 59) (v := ?_) (a' := ?_) (bb 15 16383) rfl rfl (by kernel_rfl) (fun _ _ _ h => h) (Or.inl ⟨by rfl, ?_⟩) hHeld ?_ ?_
                rotate_left
                · rintro w' ⟨s0, s1, s2, s3, s4⟩
                  go_simp
                  with_reducible rfl
                rotate_left
                · simp only [Act.put, sa, sz, ss, i64_w, i32_w]
                  rfl
                exact norm_ (by simp only [putAll, Act.put, List.setIfInBounds_toArray, List.set_cons_zero, List.set_cons_succ]) (hCont () _ rfl)
            rintro _ w4 hw4
            have hpb : w4.heap[w3.heap.size]? = some (.cells #[.string ⟨#[]⟩, .int .i64 0, .string ⟨#[]⟩] 42 (0, 0)) := by rw [hw4]; exact World.alloc_heap_new _ _
            have hb4 : Below w3.heap.size w3 w4 := by rw [hw4]; exact below_drew (below_alloc (Below.refl _ _) _)
            obtain ⟨pb, hpbe⟩ : ∃ pb, pb = w3.heap.size := ⟨_, rfl⟩
            rw [← hpbe] at hpb
            rw [← hpbe]
            have hHeld : w4.cell? ⟨g, 1, none⟩ = some (.slice (some ⟨b, o, none⟩) G.objs.length c) ∧ w4.cell? ⟨b, o + j * 4 + 2, none⟩ = some (.slice (some ⟨b2, o2, none⟩) ob.links.length cx') ∧ w4.cell? ⟨b2, o2 + q * 3, none⟩ = some (.string k.1) ∧ w4.cell? ⟨b2, o2 + q * 3 + 1, none⟩ = some (.int .i64 k.2.1) ∧ w4.cell? ⟨b2, o2 + q * 3 + 2, none⟩ = some (.string k.2.2) :=
              ⟨(hb4.cell (World.block_lt_of_cell? _ _ c1)).trans c1, (hb4.cell (World.block_lt_of_cell? _ _ x2)).trans x2, (hb4.cell (World.block_lt_of_cell? _ _ k0)).trans k0, (hb4.cell (World.block_lt_of_cell? _ _ k1)).trans k1, (hb4.cell (World.block_lt_of_cell? _ _ k2)).trans k2⟩
            have u0 : w4.cell? ⟨pb, 0, none⟩ = some (.string ⟨#[]⟩) := (blk_cell hpb 0).trans rfl
            have u1 : w4.cell? ⟨pb, 1, none⟩ = some (.int .i64 0) := (blk_cell hpb 1).trans rfl
            have u2 : w4.cell? ⟨pb, 2, none⟩ = some (.string ⟨#[]⟩) := (blk_cell hpb 2).trans rfl
            have f0 : w4.frozen? ⟨pb, 0, none⟩ = false := blk_frozen hpb 0
            have f1 : w4.frozen? ⟨pb, 1, none⟩ = false := blk_frozen hpb 1
            have f2 : w4.frozen? ⟨pb, 2, none⟩ = false := blk_frozen hpb 2
            have HPB := Aside0.mk hpb
            have HB4 := Aside0.mk hb4
            have HPE := Aside0.mk hpbe
            clear hpb hb4 hpbe hw4
            refine norm_ (a' := ?_) ?_ ?_
            rotate_left
            · simp only [putAll, Act.put, List.setIfInBounds_toArray, List.set_cons_zero, List.set_cons_succ]
              rfl
            refine last_ (i := 14) (N := none) (bb 15 32767) rfl rfl (by kernel_rfl) (by decide) (fun K hK => ?_)
            refine skip_ (w1 := ?_) (by rfl) rfl ?_ ?_
            rotate_left
            · go_simp
              rfl
            refine hK.out _ _ ?_
            clear hK K
            refine done_ (by kernel_rfl) ?_
            obtain ⟨w5, hw5⟩ : ∃ w5, w5 = ((w4.setCell ⟨pb, 0, none⟩ (.string k.1)).setCell ⟨pb, 1, none⟩ (.int .i64 k.2.1)).setCell ⟨pb, 2, none⟩ (.string k.2.2) := ⟨_, rfl⟩
            rw [← hw5]
            have hb35 : Below w3.heap.size w3 w5 := by
              rw [hw5]
              exact ((HB4.out.setCell (by rw [HPE.out]; exact Nat.le_refl _) _).setCell (by rw [HPE.out]; exact Nat.le_refl _) _).setCell (by rw [HPE.out]; exact Nat.le_refl _) _
            have hp5 : w5.heap[pb]? = some (.cells #[.string k.1, .int .i64 k.2.1, .string k.2.2] 42 (0, 0)) := by
              rw [hw5]
              exact (blk_set ((blk_set ((blk_set HPB.out 0 _).trans rfl) 1 _).trans rfl) 2 _).trans rfl
            have HBW5 : Aside0 (Below w.heap.size w w5) := ⟨HBW3.out.trans (hb35.mono HBW3.out.size)⟩
            have p1 : w5.cell? ⟨pb, 1, none⟩ = some (.int .i64 k.2.1) := (blk_cell hp5 1).trans rfl
            have p2 : w5.cell? ⟨pb, 2, none⟩ = some (.string k.2.2) := (blk_cell hp5 2).trans rfl
            clear u0 u1 u2 f0 f1 f2 c1 x2 k0 k1 k2 j1 j2 j3 s1 s2 s3 n3 hw5 hb35 hp5
            have hs := HSS.out
            by_cases hk0 : 0 < k.2.1
            · rw [if_pos hk0] at hs
              have HS2 := Aside0.mk hs
              have hk0b : decide (0 < k.2.1) = true := decide_eq_true hk0
              clear hs hk0
              go_wp2
              go_roundg (gk - 1)
              case measure => have := HI.out; have := HLT.out; omega
              case rel => exact ⟨i + 1, iv + 1, k.2.1, s, sv, rfl, rfl, by first | rfl | rw [w1_], ⟨by have := HIV.out; omega⟩, HSV, ⟨by have := HLT.out; omega, by have := HI.out; omega, HI.out.2.2⟩, HS2, HBW5⟩
            rw [if_neg hk0] at hs
            have hk0b : decide (0 < k.2.1) = false := decide_eq_false hk0
            by_cases h8 : s = 8
            · rw [if_pos h8] at hs
              obtain ⟨rfl, rfl, rfl⟩ : (0 : Int) = id ∧ (13 : Int) = e ∧ s = soft' := by simpa using hs
              have h8b : (sv == 8) = true := by have := HSV.out; simp; omega
              clear hs hk0 h8
              go_wp2
              go_ret3
              exact ⟨by rw [HSV.out]; rfl, HBW5.out, HI.out.2.2⟩
            rw [if_neg h8] at hs
            have h8b : (sv == 8) = false := by have := HSV.out; simp; omega
            have HS8 : Aside0 (s + 1 ≤ 8) := ⟨by have := HI.out; omega⟩
            have ws : wrap64 (sv + 1) = sv + 1 := wrap_ok9 _ (by have := HSV.out; omega) (by have := HSV.out; have := HI.out; omega)
            obtain ⟨l, a, y, hpp⟩ : ∃ l a y, parseP k.2.2 = (l, a, y) := ⟨_, _, _, rfl⟩
            have HPP := Aside0.mk hpp
            rw [hpp] at hs
            clear hpp h8 hk0
            cases hrec : walkG G n l (s + 1) with
            | none => simp only [hrec] at hs; cases hs
            | some rr =>
              obtain ⟨tid, er, s2⟩ := rr
              simp only [hrec] at hs
              have HREC := Aside0.mk hrec
              have HWS := Aside0.mk ws
              clear hrec ws
              have ws : wrap64 (sv + 1) = sv + 1 := HWS.out
              go_upto_region 17 with (first
                | (go_at_call 84; refine (rparse_calls k.2.2 l a y HPP.out _).mono ?_; rintro e_ w6 ⟨v6, rfl, hr6, hb6⟩; obtain ⟨Al, cl, rfl⟩ := Kd.R_slice hr6; have HR6 := Aside0.mk hr6; have HB6 := Aside0.mk hb6; clear hr6 hb6)
                | (go_at_call 92; refine (IH.out G g _ c Al cl l (s + 1) s2 tid er (sv + 1) w6 (by have := HSV.out; omega) ((HR.out.below HBW5.out).below HB6.out) HA.out HB.out HLB.out (Kd.R_reads' HR6.out).2.2 (Kd.R_reads' HR6.out).2.1 HS8.out HREC.out).mono ?_; rintro e_ w7 ⟨rfl, hb7, h78⟩; have HB7 := Aside0.mk hb7; have H78 := Aside0.mk h78; clear hb7 h78))
              have HBW7 : Aside0 (Below w.heap.size w w7) := ⟨HBW5.out.trans ((HB6.out.trans (HB7.out.mono HB6.out.size)).mono HBW5.out.size)⟩
              clear p1 p2 hk0b h8b
              by_cases her : er = 0
              · subst her
                rw [if_pos rfl] at hs
                have HS2 := Aside0.mk hs
                clear hs
                go_wp2
                go_roundg (gk - 1)
                case measure => have := HI.out; have := HLT.out; omega
                case rel => exact ⟨i + 1, iv + 1, tid, s2, (s2 : Int), rfl, rfl, by first | rfl | rw [w1_], ⟨by have := HIV.out; omega⟩, ⟨rfl⟩, ⟨by have := HLT.out; omega, by have := HI.out; omega, H78.out⟩, HS2, HBW7⟩
              · rw [if_neg her] at hs
                obtain ⟨rfl, rfl, rfl⟩ : (0 : Int) = id ∧ er = e ∧ s2 = soft' := by simpa using hs
                have herb : (er != 0) = true := by simpa using her
                clear hs her
                go_wp2
                go_ret3
                exact ⟨rfl, HBW7.out, H78.out⟩
      · have q1 : decide (iv < (names.length : Int)) = false := decide_eq_false (by have := HIV.out; omega)
        have q2 : (iv < (names.length : Int)) = False := eq_false (by have := HIV.out; omega)
        have hs := HS.out
        rw [List.drop_of_length_le (by omega)] at hs
        obtain ⟨rfl, rfl, rfl⟩ : cur = id ∧ (0 : Int) = e ∧ s = soft' := by simpa [walkStep] using hs
        clear hs HS hlt
        go_wp2
        go_ret3
        exact ⟨by rw [HSV.out]; rfl, HBW.out, HI.out.2.2⟩
end
end Go.Proofs.YthifdofdoeaemaaGreatDoor.Wk
end
section
namespace Go.Proofs.YthifdofdoeaemaaGreatDoor.Wk
open Go.RowKit Go.Proofs.YthifdofdoeaemaaGreatDoorW.PrintWords Go.Proofs.YthifdofdoeaemaaGreatDoorW.PrintLast Go.Proofs.YthifdofdoeaemaaGreatDoorW.PrintMore
attribute [local go_sem] max2_int min2_int max_two min_two max_three min_three max_four min_four
set_option linter.unusedVariables false
set_option linter.unusedSimpArgs false
section
open Go.RowKit Go.Lib Go.Maps
theorem any_cons (b : UInt8) (l : List UInt8) : Lib.containsAny (b :: l) [47, 0] = (decide (b = 47 ∨ b = 0) || Lib.containsAny l [47, 0]) := by
  have hg := Lib.indexAny_ge [47, 0] l
  by_cases h : b = 47 ∨ b = 0
  · have hc : ([47, 0] : List UInt8).contains b = true := by rcases h with rfl | rfl <;> rfl
    simp [Lib.containsAny, Lib.indexAny, h]
  · have hc : ([47, 0] : List UInt8).contains b = false := by
      simp only [List.contains_cons, List.contains_nil, Bool.or_false, Bool.or_eq_false_iff, beq_eq_false_iff_ne]
      exact ⟨fun e => h (.inl e), fun e => h (.inr e)⟩
    have hd : decide (b = 47 ∨ b = 0) = false := decide_eq_false h
    rw [hd, Bool.false_or]
    unfold Lib.containsAny
    congr 1
    rw [Lib.indexAny, if_neg (by rw [hc]; simp)]
    split
    · rename_i h1
      have : Lib.indexAny l [47, 0] = -1 := by simpa using h1
      rw [this]
    · rename_i h1
      have : Lib.indexAny l [47, 0] ≠ -1 := by simpa using h1
      apply propext
      omega
theorem sortI_len (c : List Int) : (sortI c).length = c.length := List.length_mergeSort c
end
end Go.Proofs.YthifdofdoeaemaaGreatDoor.Wk
end
section
namespace Go.Proofs.YthifdofdoeaemaaGreatDoor.Wk
open Go.RowKit Go.Proofs.YthifdofdoeaemaaGreatDoorW.PrintWords Go.Proofs.YthifdofdoeaemaaGreatDoorW.PrintLast Go.Proofs.YthifdofdoeaemaaGreatDoorW.PrintMore
attribute [local go_sem] max2_int min2_int max_two min_two max_three min_three max_four min_four
set_option linter.unusedVariables false
set_option linter.unusedSimpArgs false
section
open Go.RowKit Go.Lib Go.Maps Go.Proofs.YthifdofdoeaemaaGreatDoorQ
attribute [local go_sem] Oper.semAt_some
set_option maxHeartbeats 8000000 in
set_option maxRecDepth 100000 in
theorem free_calls (n : Nat) (B : GB) (G : GS) (id : Int) (w : World) (hG : GraphAt w B G) (hw : (Lit.int .i64 id).wf = true) (r : List Int) (e : Int) (G2 : GS) (h : freeG n G id = some (r, e, G2)) :
    Calls Tryz.prog 27 #[.pointer (some ⟨B.g, 0, none⟩), .int .i64 id] w fun ev w' => ∃ v, ev = .returned (.tuple #[v, .int .i64 e]) ∧
      w'.ownsRow w.heap.size 3 1 v r.length (r.map (.int .i64)) ∧ GraphAt w' B G2 ∧ (∀ y ∈ G2.objs, ∃ z ∈ G.objs, y.1 = z.1) ∧ SameOn (fun k => ¬ foot B G k) w w' := by
  have HG := Aside0.mk hG
  have HW := Aside0.mk hw
  have c1 := hG.c1
  have hlk := hG.look id (Tryz.zeroValue75 w) (key_int id hw)
  unfold freeG at h
  cases ho : G.at id with
  | none =>
    rw [ho] at hlk h
    simp only at hlk
    have HK := Aside0.mk (show kindG G id = (0, 10) by unfold kindG; rw [ho])
    cases h
    clear hG ho hw
    go_enter Tryz.func27, Tryz.ntmps27
    go_wp2_with (go_at_call 26; refine (kind_calls B G id _ HG.out HW.out).mono ?_; rintro e_ w1 ⟨rfl, h0_⟩; obtain rfl := h0_.symm; rw [HK.out])
    go_ret2
    exact ⟨_, rfl, World.ownsRow_nil _ _ _ _, HG.out, fun y hy => ⟨y, hy, rfl⟩, SameOn.refl _ _⟩
  | some x =>
    rw [ho] at hlk h
    simp only at hlk h
    have HK := Aside0.mk (show kindG G id = (x.kind, 0) by unfold kindG; rw [ho])
    have o3 : w.cell? ⟨B.ob id, 3, none⟩ = some (.int .i64 x.held) := (hG.obj ho).c3
    by_cases h0 : x.held = 0
    · rw [if_pos h0] at h
      cases h
      have h0b : (x.held == 0) = true := by simpa using h0
      clear hG ho hw h0
      go_enter Tryz.func27, Tryz.ntmps27
      go_wp2_with (go_at_call 26; refine (kind_calls B G id _ HG.out HW.out).mono ?_; rintro e_ w1 ⟨rfl, h0_⟩; obtain rfl := h0_.symm; rw [HK.out])
      go_ret2
      exact ⟨_, rfl, World.ownsRow_nil _ _ _ _, HG.out, fun y hy => ⟨y, hy, rfl⟩, SameOn.refl _ _⟩
    rw [if_neg h0] at h
    have h0b : (x.held == 0) = false := by simpa using h0
    by_cases hb : -4611686018427387904 < x.held ∧ x.held < 4611686018427387904
    rotate_left
    · rw [if_neg hb] at h; cases h
    rw [if_pos hb] at h
    cases hc : sweepG n { G with objs := setO G.objs id (fun o => { o with held := o.held - 1 }) } id with
    | none => rw [hc] at h; cases h
    | some c =>
      obtain ⟨d1, d2⟩ := c
      rw [hc] at h
      simp only at h
      by_cases hbd : d1.length ≤ bound
      rotate_left
      · rw [if_neg hbd] at h; cases h
      rw [if_pos hbd] at h
      obtain ⟨rfl, rfl, rfl⟩ : sortI d1 = r ∧ (0 : Int) = e ∧ d2 = G2 := by simpa using h
      have HC := Aside0.mk hc
      have HB := Aside0.mk hbd
      have hwh : wrap64 (x.held - 1) = x.held - 1 := by obtain ⟨h1, h2⟩ := hb; unfold wrap64; omega
      have f3 : w.frozen? ⟨B.ob id, 3, none⟩ = false := blk_frozen (hG.obj ho).1 3
      obtain ⟨W1, hW1⟩ : ∃ W1, W1 = w.setCell ⟨B.ob id, 3, none⟩ (.int .i64 (x.held - 1)) := ⟨_, rfl⟩
      have hg1 : GraphAt W1 B { G with objs := setO G.objs id (fun o => { o with held := o.held - 1 }) } := by
        rw [hW1]
        exact hG.turnO ho _ ⟨(blk_set (hG.obj ho).1 3 _).trans rfl, own_same (hG.obj ho).2 (Below.heap_setCell _ _ _ _ (hG.ob_lb (at_mem ho) (at_mem ho)).symm)⟩ (fun k _ hk _ _ => Below.heap_setCell _ _ _ _ hk)
      have hs1 : SameOn (fun k => ¬ foot B G k) w W1 := by
        rw [hW1]
        exact SameOn.setCell _ _ _ (fun hn => hn (.inr (.inr ⟨_, at_mem ho, .inl rfl⟩)))
      have HG1 := Aside0.mk hg1
      have HS1 := Aside0.mk hs1
      have HW1 := Aside0.mk hW1
      clear hG ho hw h hc hbd h0 hb hg1 hs1 hW1
      go_enter Tryz.func27, Tryz.ntmps27
      go_upto_region 8 with (go_at_call 26; refine (kind_calls B G id _ HG.out HW.out).mono ?_; rintro e_ w1 ⟨rfl, h0_⟩; obtain rfl := h0_.symm; rw [HK.out])
      rw [← HW1.out]
      clear c1 o3 f3 hlk
      go_wp2_with (first
        | (go_at_call 50; refine (sweep_calls n B _ id _ _ _ HG1.out HC.out).mono ?_; rintro e_ w3 ⟨v3, rfl, hr3, hg3, hk3, hs3⟩; have HR3 := Aside0.mk hr3; have HG3 := Aside0.mk hg3; have HK3 := Aside0.mk hk3; have HS3 := Aside0.mk hs3; clear hr3 hg3 hk3 hs3)
        | (go_at_call 46; refine (sortI_calls _ _ _ _ HR3.out HB.out).mono ?_; rintro e_ w4 ⟨rfl, hr4, hs4⟩; have HR4 := Aside0.mk hr4; have HS4 := Aside0.mk hs4; clear hr4 hs4))
      go_ret2
      have hkk : ∀ y ∈ d2.objs, ∃ z ∈ G.objs, y.1 = z.1 := fun y hy => by
        obtain ⟨z, hz, e⟩ := HK3.out y hy
        obtain ⟨z', hz', e'⟩ := key_setO hz
        exact ⟨z', hz', e.trans e'⟩
      have hz1 := HS1.out.size
      have hz3 := HS3.out.size
      have hfl : ∀ q, foot B d2 q → q < w.heap.size := fun q hf => HG.out.foot_lt (foot_keys hkk hf)
      have hbk : ∀ q, q < w.heap.size → some q ≠ v3.ownBlock := fun q hq e => by have := (HR3.out.lt q e.symm).1; omega
      refine ⟨v3, rfl, HR4.out.mono (by omega), HG3.out.step (fun q hf hl => HS4.out.block q hl (hbk q (hfl q hf))), hkk, ⟨?_, fun q hq hl => ?_, ?_, ?_, ?_⟩⟩
      · have := HS4.out.size; omega
      · exact ((HS4.out.block q (by omega) (hbk q hl)).trans (HS3.out.same q (fun hf => hq (foot_setO hf)) (by omega))).trans (HS1.out.same q hq hl)
      · exact HS4.out.os.trans (HS3.out.os.trans HS1.out.os)
      · exact HS4.out.tape.trans (HS3.out.tape.trans HS1.out.tape)
      · exact HS4.out.output.trans (HS3.out.output.trans HS1.out.output)
end
end Go.Proofs.YthifdofdoeaemaaGreatDoor.Wk
end
section
namespace Go.Proofs.YthifdofdoeaemaaGreatDoor.Wk
open Go.RowKit Go.Proofs.YthifdofdoeaemaaGreatDoorW.PrintWords Go.Proofs.YthifdofdoeaemaaGreatDoorW.PrintLast Go.Proofs.YthifdofdoeaemaaGreatDoorW.PrintMore
attribute [local go_sem] max2_int min2_int max_two min_two max_three min_three max_four min_four
set_option linter.unusedVariables false
set_option linter.unusedSimpArgs false
section
open Go.RowKit Go.Lib Go.Maps
structure HeldP (id : Int) (n : Nat) (G : GS) : Prop where
  ok : Ok G
  rest : Rest G
  held : ∀ x ∈ G.objs, x.2.held = if x.1 = id then (n : Int) else 0
  me : ∃ o, (id, o) ∈ G.objs
  ac : Acyc G
  next : G.next ≤ 1000
def heldG (G : GS) (id : Int) (f : GO → GO) : GS := { G with objs := setO G.objs id f }
structure Turn (f : GO → GO) (d : Int) : Prop where
  kind : ∀ o, (f o).kind = o.kind
  links : ∀ o, (f o).links = o.links
  leads : ∀ o, (f o).leads = o.leads
  held : ∀ o, (f o).held = o.held + d
theorem turn_mem {G : GS} {id : Int} {f : GO → GO} {d : Int} (hf : Turn f d) {y : Int × GO} (hy : y ∈ (heldG G id f).objs) : ∃ z ∈ G.objs, y.1 = z.1 ∧ y.2.kind = z.2.kind ∧ y.2.links = z.2.links ∧ y.2.leads = z.2.leads ∧ y.2.held = if z.1 = id then z.2.held + d else z.2.held := by
  obtain ⟨z, hz, e1, e2⟩ := mem_setO2 hy
  refine ⟨z, hz, e1, ?_⟩
  rw [e2]
  by_cases h : z.1 = id
  · simp only [if_pos h, hf.kind, hf.links, hf.leads, hf.held, and_self]
  · simp only [if_neg h, and_self]
theorem turn_of {G : GS} {id : Int} {f : GO → GO} {d : Int} (hf : Turn f d) {z : Int × GO} (hz : z ∈ G.objs) : ∃ p, (z.1, p) ∈ (heldG G id f).objs ∧ p.kind = z.2.kind ∧ p.links = z.2.links ∧ p.leads = z.2.leads ∧ p.held = if z.1 = id then z.2.held + d else z.2.held := by
  have h1 := mem_setO_of (id := id) (f := f) hz
  by_cases e : z.1 = id
  · simp only [if_pos e] at h1 ⊢
    exact ⟨_, h1, hf.kind _, hf.links _, hf.leads _, hf.held _⟩
  · simp only [if_neg e] at h1 ⊢
    exact ⟨_, h1, rfl, rfl, rfl, rfl⟩
theorem turn_ok {G : GS} (h : Ok G) {id : Int} {f : GO → GO} {d : Int} (hf : Turn f d) (h0 : ∀ o, (id, o) ∈ G.objs → 0 ≤ o.held + d) : Ok (heldG G id f) where
  asc := asc_set h.asc _ _
  root := by obtain ⟨o, ho, hk⟩ := h.root; obtain ⟨p, hp, e, -⟩ := turn_of (id := id) hf ho; exact ⟨p, hp, e.trans hk⟩
  ids := fun y hy => by obtain ⟨z, hz, e, -⟩ := turn_mem hf hy; rw [e]; exact h.ids z hz
  kind := fun y hy => by obtain ⟨z, hz, -, e1, e2, -⟩ := turn_mem hf hy; rw [e1, e2]; exact h.kind z hz
  names := fun y hy => by obtain ⟨z, hz, -, -, e2, -⟩ := turn_mem hf hy; rw [e2]; exact h.names z hz
  lk := fun y hy k hk => by
    obtain ⟨z, hz, -, -, e2, -⟩ := turn_mem hf hy
    rw [e2] at hk
    exact (h.lk z hz k hk).mono (fun t ht => by obtain ⟨p, hp, -⟩ := turn_of (id := id) hf ht; exact ⟨p, hp⟩)
  leads := fun y hy => by
    obtain ⟨z, hz, e, -, -, e3, -⟩ := turn_mem hf hy
    rw [e3, e, h.leads z hz]
    show _ = ((sumO _ (setO G.objs id f) : Nat) : Int)
    rw [sumO_keep (g := cntO z.1) (f := f) (fun o => by unfold cntO; rw [hf.links])]
  held := fun y hy => by
    obtain ⟨z, hz, e, -, -, -, e4⟩ := turn_mem hf hy
    rw [e4]
    split
    · rename_i hid
      exact h0 z.2 (hid ▸ hz)
    · exact h.held z hz
  count := by
    show G.count = ((sumO _ (setO G.objs id f) : Nat) : Int)
    rw [sumO_keep (g := lenO) (f := f) (fun o => by unfold lenO; rw [hf.links])]
    exact h.count
  links := by
    show sumO _ (setO G.objs id f) ≤ 256
    rw [sumO_keep (g := lenO) (f := f) (fun o => by unfold lenO; rw [hf.links])]
    exact h.links
  size := by show (setO G.objs id f).length ≤ 128; rw [length_setO]; exact h.size
  ones := fun y hy h1 => by
    obtain ⟨z, hz, -, e1, -, e3, -⟩ := turn_mem hf hy
    rw [e3]
    exact h.ones z hz (e1.symm.trans h1)
theorem turn_acyc {G : GS} (h : Acyc G) {id : Int} {f : GO → GO} {d : Int} (hf : Turn f d) : Acyc (heldG G id f) := by
  intro y hy k hk
  obtain ⟨z, hz, e, -, e2, -⟩ := turn_mem hf hy
  rw [e2] at hk
  rw [e]
  refine (h z hz k hk).imp_right (fun a => a.imp_right ?_)
  rintro ⟨t, ht, hk⟩
  obtain ⟨p, hp, e, -⟩ := turn_of (id := id) hf ht
  exact ⟨p, hp, e.trans hk⟩
theorem turn_up : Turn (fun o => { o with held := o.held + 1 }) 1 := ⟨fun _ => rfl, fun _ => rfl, fun _ => rfl, fun _ => rfl⟩
theorem turn_down : Turn (fun o => { o with held := o.held - 1 }) (-1) := ⟨fun _ => rfl, fun _ => rfl, fun _ => rfl, fun _ => rfl⟩
theorem HeldP.count {id : Int} {n : Nat} {G : GS} (h : HeldP id n G) {o : GO} (ho : (id, o) ∈ G.objs) : o.held = n := by
  have := h.held _ ho
  rw [if_pos rfl] at this
  exact this
theorem sortI_nil : sortI [] = [] := by unfold sortI; simp
end
end Go.Proofs.YthifdofdoeaemaaGreatDoor.Wk
end
section
namespace Go.Proofs.YthifdofdoeaemaaGreatDoor.Wk
open Go.RowKit Go.Proofs.YthifdofdoeaemaaGreatDoorW.PrintWords Go.Proofs.YthifdofdoeaemaaGreatDoorW.PrintLast Go.Proofs.YthifdofdoeaemaaGreatDoorW.PrintMore
attribute [local go_sem] max2_int min2_int max_two min_two max_three min_three max_four min_four
set_option linter.unusedVariables false
set_option linter.unusedSimpArgs false
section
open Go.RowKit Go.Lib
structure Live (m : Nat) (G : GS) : Prop where
  ok : Ok G
  rest : Rest G
  ac : Acyc G
  next : G.next ≤ (m : Int) + 2
  few : ∀ x ∈ G.objs, x.2.held ≤ m
theorem Live.mono {m n : Nat} {G : GS} (h : Live m G) (hn : m ≤ n) : Live n G := ⟨h.ok, h.rest, h.ac, by have := h.next; omega, fun x hx => by have := h.few x hx; omega⟩
theorem live_new : Live 0 newG := ⟨play_new.ok, play_new.rest, acyc_new, play_new.next, fun x hx => by have := play_new.free x hx; omega⟩
def slotG (G : GS) (p : ByteArray) : Option (Int × ByteArray × Int) :=
  match placeG G p 11 with
  | none => none
  | some r => if r.2.2 = 0 then match G.at r.1 with
      | none => none
      | some x => if (lnk x.links r.2.1).isSome then some (0, ⟨#[]⟩, 11) else some r
    else some (0, ⟨#[]⟩, r.2.2)
theorem slot_ok {G : GS} (h : Ok G) (p : ByteArray) : ∃ r, slotG G p = some r ∧ (r.2.2 = 0 → ∃ o, (r.1, o) ∈ G.objs ∧ o.kind = 1 ∧ goodName r.2.1 = true ∧ lnk o.links r.2.1 = none) ∧
    roomG G p = some (if r.2.2 = 0 then (r.1, r.2.1, if G.count = 256 then 7 else 0) else (0, ⟨#[]⟩, r.2.2)) := by
  unfold slotG roomG
  obtain ⟨q, hq, w⟩ := place_ok h p 11 (by decide)
  rw [hq]
  simp only
  by_cases he : q.2.2 = 0
  · obtain ⟨o, ho, hk, hg⟩ := w he
    rw [if_pos he, if_pos he, h.obj ho]
    simp only
    cases hn : lnk o.links q.2.1 with
    | some k =>
      simp only [Option.isSome_some, if_true]
      exact ⟨_, rfl, fun h => (by cases h), rfl⟩
    | none =>
      simp only [Option.isSome_none, if_false, Bool.false_eq_true]
      refine ⟨_, rfl, fun _ => ⟨o, ho, hk, hg, hn⟩, ?_⟩
      rw [if_pos he]
      split <;> rfl
  · rw [if_neg he, if_neg he]
    refine ⟨_, rfl, fun h => absurd h he, ?_⟩
    rw [if_neg he]
theorem live_put {m : Nat} {G : GS} (h : Live m G) {id : Int} {x : Lk} (h2 : Ok (put2 G id x)) (ha : Acyc (put2 G id x)) : Live m (put2 G id x) where
  ok := h2
  rest := put_rest h.rest id x
  ac := ha
  next := h.next
  few := fun y hy => by obtain ⟨z, hz, -, -, e3, -⟩ := put2_mem hy; rw [e3]; exact h.few z hz
theorem live_soft {m : Nat} {G : GS} (h : Live m G) (p t : ByteArray) : ∃ e G2, softG G p t = some (e, G2) ∧ Live m G2 := by
  obtain ⟨e, G2, hs, hh⟩ := soft_ok h.ok p t
  have ha := acyc_soft h.ok h.ac hs
  rcases hh with ⟨-, rfl⟩ | ⟨-, id, nm, o, -, -, -, -, -, -, rfl, h2⟩
  · exact ⟨e, _, hs, h⟩
  · exact ⟨e, _, hs, live_put h h2 ha⟩
theorem live_link {m : Nat} {G : GS} (h : Live m G) (p t : ByteArray) : ∃ e G2, linkG G p t = some (e, G2) ∧ Live m G2 := by
  obtain ⟨e, G2, hs, hh⟩ := link_ok h.ok p t
  have ha := acyc_link h.ok h.ac hs
  rcases hh with ⟨-, rfl⟩ | ⟨-, id, nm, o, tid, x, -, -, -, -, -, -, -, -, rfl, h2⟩
  · exact ⟨e, _, hs, h⟩
  · exact ⟨e, _, hs, live_put h h2 ha⟩
theorem live_add {m : Nat} {G : GS} (h : Live m G) (hm : m ≤ 1000000) (p : ByteArray) (kind : Int) : ∃ id e G2, addG G p kind = some (id, e, G2) ∧ Live (m + 1) G2 := by
  have hnx := h.next
  obtain ⟨id, e, G2, hs, hh⟩ := add_ok h.ok (by omega) p kind
  have ha := acyc_add h.ok (by omega) h.ac hs
  rcases hh with ⟨-, -, rfl⟩ | ⟨-, -, -, -, gid, nm, o, -, -, -, -, -, rfl, -, h2⟩
  · exact ⟨id, e, _, hs, h.mono (by omega)⟩
  · refine ⟨id, e, _, hs, h2, add_rest h.rest kind gid nm, ha, ?_, fun y hy => ?_⟩
    · show G.next + 1 ≤ _
      omega
    · obtain ⟨z, hz, -, -, e3, -⟩ := put2_mem hy
      rw [e3]
      rcases mem_putO.1 hz with rfl | ⟨hz, -⟩
      · show (0 : Int) ≤ _
        omega
      · have := h.few z hz; omega
theorem live_unlink {m : Nat} {G : GS} (h : Live m G) (p : ByteArray) : ∃ r e G2, unlinkG 300 G p = some (r, e, G2) ∧ Live m G2 := by
  obtain ⟨r, e, G2, hs, hh⟩ := unlink_ok h.ok 300 (by omega) p
  have ha := acyc_unlink h.ok h.ac hs
  rcases hh with ⟨-, -, rfl⟩ | ⟨-, id, nm, o, k, c, -, ho, hk, -, -, hh⟩
  · exact ⟨r, e, _, hs, h⟩
  · rcases hh with ⟨h0, -, rfl⟩ | ⟨h0, -, -, hst, hcl⟩
    · refine ⟨r, e, _, hs, cut_ok h.ok ho hk, fun y hy => ?_, ha, h.next, fun y hy => ?_⟩
      · obtain ⟨z, hz, e1, -, e3, -, e5⟩ := cut2_mem hy
        have hz0 := no_zero h.ok hz
        rw [e1, e3, e5, if_neg (by rw [h0]; exact hz0)]
        exact h.rest z hz
      · obtain ⟨z, hz, -, -, e3, -⟩ := cut2_mem hy
        rw [e3]; exact h.few z hz
    · refine ⟨r, e, _, hs, hst.ok, unlink_rest h.ok h.rest hst hcl, ha, by rw [hst.next]; exact h.next, fun y hy => ?_⟩
      obtain ⟨p', hp', -, e2, -⟩ := hst.back y.1 y.2 hy
      obtain ⟨z, hz, -, f2, -⟩ := cut2_back hp'
      rw [e2, f2]
      exact h.few _ hz
theorem live_hold {m : Nat} {G : GS} (h : Live m G) (hm : m ≤ 1000000) (id : Int) : ∃ e G2, holdG G id = some (e, G2) ∧ Live (m + 1) G2 ∧ ((G.at id = none ∧ e = 10 ∧ G2 = G) ∨ (∃ o, (id, o) ∈ G.objs ∧ e = 0 ∧ G2 = heldG G id (fun o => { o with held := o.held + 1 }))) := by
  unfold holdG
  cases ha : G.at id with
  | none => exact ⟨_, _, rfl, h.mono (by omega), .inl ⟨rfl, rfl, rfl⟩⟩
  | some o =>
    have ho := at_mem ha
    have h0 := h.ok.held _ ho
    have h1 := h.few _ ho
    simp only at h0 h1 ⊢
    rw [if_pos ⟨by omega, by omega⟩]
    refine ⟨_, _, rfl, ?_, .inr ⟨o, ho, rfl, rfl⟩⟩
    have hf := turn_up
    refine ⟨turn_ok h.ok hf (fun p hp => by have := h.ok.held _ hp; simp only at this; omega), fun y hy => ?_, turn_acyc h.ac hf, by have := h.next; show G.next ≤ _; omega, fun y hy => ?_⟩
    · obtain ⟨z, hz, e1, -, -, e4, e5⟩ := turn_mem hf hy
      have hr := h.rest z hz
      have := h.ok.held z hz
      rw [e1, e4, e5]
      rcases hr with h1 | h1 | h1
      · exact .inl h1
      · exact .inr (.inl h1)
      · right; right; split <;> omega
    · obtain ⟨z, hz, e1, -, -, e4, e5⟩ := turn_mem hf hy
      have := h.few z hz
      rw [e5]
      split <;> omega
theorem live_free {m : Nat} {G : GS} (h : Live m G) (hm : m ≤ 1000000) (id : Int) : ∃ r e G2, freeG 300 G id = some (r, e, G2) ∧ Live m G2 ∧ ((G.at id = none ∧ e = 10 ∧ r = [] ∧ G2 = G) ∨ (∃ o, (id, o) ∈ G.objs ∧ o.held = 0 ∧ e = 2 ∧ r = [] ∧ G2 = G) ∨
    (∃ o c, (id, o) ∈ G.objs ∧ o.held ≠ 0 ∧ e = 0 ∧ r = sortI c ∧ Ok (heldG G id (fun o => { o with held := o.held - 1 })) ∧ Acyc (heldG G id (fun o => { o with held := o.held - 1 })) ∧ Step id (heldG G id (fun o => { o with held := o.held - 1 })) c G2 ∧ Clean id (heldG G id (fun o => { o with held := o.held - 1 })) G2)) := by
  unfold freeG
  cases ha : G.at id with
  | none => exact ⟨_, _, _, rfl, h, .inl ⟨rfl, rfl, rfl, rfl⟩⟩
  | some o =>
    have ho := at_mem ha
    have h0 := h.ok.held _ ho
    have h1 := h.few _ ho
    simp only at h0 h1 ⊢
    by_cases hz : o.held = 0
    · rw [if_pos hz]
      exact ⟨_, _, _, rfl, h, .inr (.inl ⟨o, ho, hz, rfl, rfl, rfl⟩)⟩
    rw [if_neg hz, if_pos ⟨by omega, by omega⟩]
    have hf := turn_down
    have hok : Ok (heldG G id (fun o => { o with held := o.held - 1 })) := turn_ok h.ok hf (fun p hp => by rw [asc_uniq h.ok.asc hp ho]; omega)
    have hac : Acyc (heldG G id (fun o => { o with held := o.held - 1 })) := turn_acyc h.ac hf
    obtain ⟨p, hp, -⟩ := turn_of (id := id) hf ho
    obtain ⟨c, G2, hsw, hst, hcl⟩ := sweep_ok 300 _ id p hok hp (by have := hok.links; omega)
    have hlen : c.length ≤ 128 := by
      have h3 := hst.size
      have h4 := hok.size
      omega
    have hsw' := hsw
    unfold heldG at hsw'
    rw [hsw']
    simp only
    rw [if_pos (by unfold bound; omega)]
    refine ⟨_, _, _, rfl, ⟨hst.ok, fun y hy => ?_, acyc_step hok.asc hac hst hcl, by rw [hst.next]; exact h.next, fun y hy => ?_⟩, .inr (.inr ⟨o, c, ho, hz, rfl, rfl, hok, hac, hst, hcl⟩)⟩
    · obtain ⟨yi, q⟩ := y
      simp only
      have hql := hst.ok.lead hy
      have hqh := hst.ok.held _ hy
      simp only at hql hqh
      by_cases h1 : yi = 1
      · exact .inl h1
      by_cases h2 : 0 < q.leads
      · exact .inr (.inl h2)
      by_cases h3 : 0 < q.held
      · exact .inr (.inr h3)
      exfalso
      by_cases ht : yi = id
      · subst ht
        exact (hcl q hy).2 ⟨h1, by omega, by omega⟩
      · obtain ⟨p, hp, e⟩ := hst.rest yi q hy (by omega) (by omega) h1 ht
        obtain ⟨p', hp', e1, e2, e3⟩ := hst.back yi q hy
        obtain rfl := asc_uniq hok.asc hp hp'
        obtain ⟨z, hz, f0, f1, -, f4, f5⟩ := turn_mem hf hp
        have := h.rest _ hz
        simp only at f0 f4 f5
        rw [if_neg (by rw [← f0]; exact ht)] at f5
        omega
    · obtain ⟨p', hp', -, e2, -⟩ := hst.back y.1 y.2 hy
      obtain ⟨z, hz, f0, -, -, -, f5⟩ := turn_mem hf hp'
      have := h.few z hz
      simp only at f5
      rw [e2, f5]
      split <;> omega
end
end Go.Proofs.YthifdofdoeaemaaGreatDoor.Wk
end
section
namespace Go.Proofs.YthifdofdoeaemaaGreatDoor.Wk
open Go.RowKit Go.Proofs.YthifdofdoeaemaaGreatDoorW.PrintWords Go.Proofs.YthifdofdoeaemaaGreatDoorW.PrintLast Go.Proofs.YthifdofdoeaemaaGreatDoorW.PrintMore
attribute [local go_sem] max2_int min2_int max_two min_two max_three min_three max_four min_four
set_option linter.unusedVariables false
set_option linter.unusedSimpArgs false
section
open Go.RowKit Go.Lib Go.Maps Go.Proofs.YthifdofdoeaemaaGreatDoorQ
attribute [local go_sem] Oper.semAt_some
set_option maxHeartbeats 8000000 in
set_option maxRecDepth 100000 in
theorem refFind_calls (w : World) (g : Nat) (G : GS) (A : Option Addr) (c : Nat) (hr : RefR w g G.next A c G.objs) (hok : Ok G) (p : ByteArray) (id e : Int) (h : findG G p = some (id, e)) :
    Calls Tryz.prog 68 #[.pointer (some ⟨g, 0, none⟩), .string p] w fun ev w' => ev = .returned (.tuple #[.int .i64 id, .int .i64 e]) ∧ Below w.heap.size w w' := by
  have HR := Aside0.mk hr
  have HOK := Aside0.mk hok
  obtain ⟨l, a, y, hpp⟩ : ∃ l a y, parseP p = (l, a, y) := ⟨_, _, _, rfl⟩
  have HPP := Aside0.mk hpp
  unfold findG at h
  simp only [hpp] at h
  clear hr hok hpp
  by_cases hy : y = 0
  · subst hy
    rw [if_pos rfl] at h
    obtain ⟨⟨id', e', s'⟩, hw, he⟩ := Option.map_eq_some_iff.1 h
    cases he
    have HW := Aside0.mk hw
    clear h hw
    go_enter Tryz.func68, Tryz.ntmps68
    go_wp2_with (first
      | (go_at_call 84; refine (rparse_calls p l a 0 HPP.out _).mono ?_; rintro e_ w2 ⟨v, rfl, hr2, hw2⟩; obtain ⟨Al, cl, rfl⟩ := Kd.R_slice hr2; have HR2 := Aside0.mk hr2; have HW2 := Aside0.mk hw2; clear hr2 hw2)
      | (go_at_call 92; refine (refWalk_calls 9 G g A c Al cl l 0 s' _ _ 0 w2 rfl (HR.out.below HW2.out) HOK.out.asc (ok_few HOK.out) (ok_short HOK.out) (Kd.R_reads' HR2.out).2.2 (Kd.R_reads' HR2.out).2.1 (Nat.zero_le _) HW.out).mono ?_; rintro e_ w3 ⟨rfl, hw3, -⟩; have HW3 := Aside0.mk hw3; clear hw3))
    go_ret2
    exact ⟨rfl, HW2.out.trans (HW3.out.mono HW2.out.size)⟩
  · rw [if_neg hy] at h
    obtain ⟨rfl, rfl⟩ : (0 : Int) = id ∧ y = e := by simpa using h
    have hyb : (y != 0) = true := by simpa using hy
    clear h
    go_enter Tryz.func68, Tryz.ntmps68
    go_wp2_with (go_at_call 84; refine (rparse_calls p l a y HPP.out _).mono ?_; rintro e_ w2 ⟨v, rfl, hr2, hw2⟩; have HW2 := Aside0.mk hw2; clear hr2 hw2)
    go_ret2
    exact ⟨rfl, HW2.out⟩
theorem refWalk_row (n : Nat) (G : GS) (g : Nat) (A : Option Addr) (c : Nat) (Al : Option Addr) (cl : Nat) (l : List ByteArray) (m : Nat) (hm : m ≤ l.length) {ok : Nat → Prop} {base : Nat} (s2 : Nat) (id e : Int) (w : World) (hr : RefR w g G.next A c G.objs) (hok : Ok G)
    (hl : Kd.R Kd.string 9 w base ok (.slice Al l.length cl) l) (h : walkG G n (l.take m) 0 = some (id, e, s2)) :
    Calls Tryz.prog 92 #[.pointer (some ⟨g, 0, none⟩), .slice Al m cl, .int .i64 0] w fun ev w' => ev = .returned (.tuple #[.int .i64 id, .int .i64 (s2 : Int), .int .i64 e]) ∧ Below w.heap.size w w' := by
  have h2 := Kd.R_take hl hm
  obtain ⟨-, hc, hC⟩ := Kd.R_reads' h2
  have hlm : (l.take m).length = m := by rw [List.length_take]; omega
  have := refWalk_calls n G g A c Al cl (l.take m) 0 s2 id e 0 w rfl hr hok.asc (ok_few hok) (ok_short hok) hC (by rw [hlm]; exact hc) (Nat.zero_le _) h
  rw [hlm] at this
  exact this.mono (fun e w' ⟨h1, h2, _⟩ => ⟨h1, h2⟩)
set_option maxHeartbeats 8000000 in
set_option maxRecDepth 100000 in
theorem refPlace_calls (w : World) (g : Nat) (G : GS) (A : Option Addr) (c : Nat) (hr : RefR w g G.next A c G.objs) (hok : Ok G) (p : ByteArray) (bare : Int) (id e : Int) (nm : ByteArray) (h : placeG G p bare = some (id, nm, e)) :
    Calls Tryz.prog 89 #[.pointer (some ⟨g, 0, none⟩), .string p, .int .i64 bare] w fun ev w' => ev = .returned (.tuple #[.int .i64 id, .string nm, .int .i64 e]) ∧ Below w.heap.size w w' := by
  have HR := Aside0.mk hr
  have HOK := Aside0.mk hok
  obtain ⟨l, a, y, hpp⟩ : ∃ l a y, parseP p = (l, a, y) := ⟨_, _, _, rfl⟩
  have HPP := Aside0.mk hpp
  unfold placeG at h
  simp only [hpp] at h
  clear hr hok hpp
  by_cases hy : y = 0
  rotate_left
  · rw [if_neg hy] at h
    obtain ⟨rfl, rfl, rfl⟩ : (0 : Int) = id ∧ (⟨#[]⟩ : ByteArray) = nm ∧ y = e := by simpa using h
    have hyb : (y != 0) = true := by simpa using hy
    clear h
    go_enter Tryz.func89, Tryz.ntmps89
    go_wp2_with (go_at_call 84; refine (rparse_calls p l a y HPP.out _).mono ?_; rintro e_ w2 ⟨v, rfl, hr2, hw2⟩; have HW2 := Aside0.mk hw2; clear hr2 hw2)
    refine bodyPost_ret (results_tmp3 rfl _ _ _) rfl ?_
    exact ⟨rfl, HW2.out⟩
  subst hy
  rw [if_pos rfl] at h
  by_cases h0 : l.length = 0
  · rw [if_pos h0] at h
    obtain ⟨rfl, rfl, rfl⟩ : (0 : Int) = id ∧ (⟨#[]⟩ : ByteArray) = nm ∧ bare = e := by simpa using h
    have z0 : ((l.length : Int) == 0) = true := by simp [h0]
    have HL0 := Aside0.mk h0
    have h0' : l = [] := List.length_eq_zero_iff.1 h0
    clear h h0
    go_enter Tryz.func89, Tryz.ntmps89
    go_wp2_with (go_at_call 84; refine (rparse_calls p l a 0 HPP.out _).mono ?_; rintro e_ w2 ⟨v, rfl, hr2, hw2⟩; obtain ⟨Al, cl, rfl⟩ := Kd.R_slice hr2; have HW2 := Aside0.mk hw2; clear hr2 hw2)
    refine bodyPost_ret (results_tmp3 rfl _ _ _) rfl ?_
    exact ⟨rfl, HW2.out⟩
  rw [if_neg h0] at h
  have hlen16 : l.length ≤ 16 := by
    have := HPP.out
    unfold parseP at this
    cases hf : parseF p with
    | error q => rw [hf] at this; exact absurd (by rw [← (Prod.mk.inj this).1]; rfl) h0
    | ok l0 =>
      rw [hf] at this
      obtain rfl : l0 = l := by simpa using (Prod.mk.inj this).1
      exact parseF_le hf
  have z0 : ((l.length : Int) == 0) = false := by simpa using h0
  have z1 : (l = []) = False := eq_false (fun e => h0 (by rw [e]; rfl))
  obtain ⟨m, hm⟩ : ∃ m : Nat, l.length = m + 1 := ⟨l.length - 1, by omega⟩
  have hm1 : l.length - 1 = m := by omega
  obtain ⟨mv, hmv⟩ : ∃ mv : Int, mv = (m : Int) := ⟨_, rfl⟩
  rw [hm1, show (l.length : Int) - 1 = mv by omega] at h
  have hw1 : wrap64 ((l.length : Int) - 1) = mv := by unfold wrap64; omega
  have m1 : ((0 : Int) ≤ mv) = True := eq_true (by omega)
  have m2 : (mv < (l.length : Int)) = True := eq_true (by omega)
  have m3 : mv.toNat = m := by omega
  have HM := Aside0.mk hm
  have HMV := Aside0.mk hmv
  cases hwk : walkG G 9 (l.take m) 0 with
  | none => rw [hwk] at h; cases h
  | some r =>
    obtain ⟨tid, er, s2⟩ := r
    rw [hwk] at h
    simp only at h
    have HWK := Aside0.mk hwk
    clear hwk h0 hlen16 hm hmv hm1
    by_cases her : er = 0
    rotate_left
    · rw [if_neg her] at h
      obtain ⟨rfl, rfl, rfl⟩ : (0 : Int) = id ∧ (⟨#[]⟩ : ByteArray) = nm ∧ er = e := by simpa using h
      have herb : (er != 0) = true := by simpa using her
      clear h
      go_enter Tryz.func89, Tryz.ntmps89
      go_wp2_with (first
        | (go_at_call 84; refine (rparse_calls p l a 0 HPP.out _).mono ?_; rintro e_ w2 ⟨v, rfl, hr2, hw2⟩; obtain ⟨Al, cl, rfl⟩ := Kd.R_slice hr2; have hcl := (Kd.R_reads' hr2).2.1; have hmc := eq_true (show mv ≤ (cl : Int) by have := HM.out; have := HMV.out; omega); have HR2 := Aside0.mk hr2; have HW2 := Aside0.mk hw2; clear hr2 hw2 hcl)
        | (go_at_call 92; refine (refWalk_row 9 G g A c Al cl l m (by have := HM.out; omega) s2 tid er w2 (HR.out.below HW2.out) HOK.out HR2.out HWK.out).mono ?_; rintro e_ w3 ⟨rfl, hw3⟩; have HW3 := Aside0.mk hw3; clear hw3))
      refine bodyPost_ret (results_tmp3 rfl _ _ _) rfl ?_
      exact ⟨rfl, HW2.out.trans (HW3.out.mono HW2.out.size)⟩
    subst her
    rw [if_pos rfl] at h
    cases ho : G.at tid with
    | none => rw [ho] at h; cases h
    | some x =>
      rw [ho] at h
      simp only at h
      obtain ⟨j, hj⟩ := at_idx ho
      obtain ⟨jv, hjv⟩ : ∃ jv, jv = (j : Int) := ⟨_, rfl⟩
      have hjl := (List.getElem?_eq_some_iff.1 hj).1
      have j1 : (jv < (G.objs.length : Int)) = True := eq_true (by omega)
      have j2 : ((0 : Int) ≤ jv) = True := eq_true (by omega)
      have j3 : jv.toNat = j := by omega
      have HJ := Aside0.mk hj
      have HJV := Aside0.mk hjv
      clear ho hj hjv hjl
      go_enter Tryz.func89, Tryz.ntmps89
      go_upto_region 9 with (first
        | (go_at_call 84; refine (rparse_calls p l a 0 HPP.out _).mono ?_; rintro e_ w2 ⟨v, rfl, hr2, hw2⟩; obtain ⟨Al, cl, rfl⟩ := Kd.R_slice hr2; have hcl := (Kd.R_reads' hr2).2.1; have hmc := eq_true (show mv ≤ (cl : Int) by have := HM.out; have := HMV.out; omega); have HR2 := Aside0.mk hr2; have HW2 := Aside0.mk hw2; clear hr2 hw2 hcl)
        | (go_at_call 92; refine (refWalk_row 9 G g A c Al cl l m (by have := HM.out; omega) s2 tid 0 w2 (HR.out.below HW2.out) HOK.out HR2.out HWK.out).mono ?_; rintro e_ w3 ⟨rfl, hw3⟩; have HW3 := Aside0.mk hw3; clear hw3))
      have HBB := Aside0.mk (HW2.out.trans (HW3.out.mono HW2.out.size))
      have hRW := HR.out.below HBB.out
      obtain ⟨b, o, Ax, cx, hAe, -, -, x1, x2, -, -, -⟩ := hRW.objs.at HJ.out
      subst hAe
      have c1 := hRW.c1
      have HRW := Aside0.mk hRW
      clear hRW
      by_cases hk : x.kind = 1
      rotate_left
      · rw [if_neg hk] at h
        obtain ⟨rfl, rfl, rfl⟩ : (0 : Int) = id ∧ (⟨#[]⟩ : ByteArray) = nm ∧ (12 : Int) = e := by simpa using h
        have hkb : (x.kind != 1) = true := by simpa using hk
        clear h hk
        go_big_quiet ((go_at_call 56; exact Calls.quiet_of_same (refAt_at _ g _ _ c G.objs (HRW.out.below (below_dn2 _ _)) HOK.out.asc (ok_few HOK.out) HJ.out tid jv rfl HJV.out)))
        go_wp2
        refine bodyPost_ret (results_tmp3 rfl _ _ _) rfl ?_
        exact ⟨rfl, HBB.out.trans (below_dn3 HBB.out.size)⟩
      rw [if_pos hk] at h
      obtain ⟨rfl, rfl, rfl⟩ : tid = id ∧ rdOf ByteArray.empty l mv = nm ∧ (0 : Int) = e := by simpa using h
      have hkb : (x.kind != 1) = false := by simpa using hk
      clear h hk
      go_big_quiet ((go_at_call 56; exact Calls.quiet_of_same (refAt_at _ g _ _ c G.objs (HRW.out.below (below_dn2 _ _)) HOK.out.asc (ok_few HOK.out) HJ.out tid jv rfl HJV.out)))
      clear c1 x1 x2 j1 j2 j3
      obtain ⟨ad, e1, hc0⟩ := Kd.at_string (Kd.C_below (Kd.R_reads' HR2.out).2.2 HW3.out) mv (by have := HMV.out; omega) (by have := HM.out; have := HMV.out; omega)
      subst e1
      rw [m3] at hc0
      obtain ⟨W4, hW4⟩ : ∃ W4, W4 = w3.drewN nq := ⟨_, rfl⟩
      rw [← hW4]
      have hc4 : W4.cell? (ad.add m) = some (.string (rdOf ByteArray.empty l mv)) := by rw [hW4]; exact hc0
      have HBB4 : Aside0 (Below w.heap.size w W4) := ⟨by rw [hW4]; exact HBB.out.trans (below_dn3 HBB.out.size)⟩
      clear hW4 hc0
      go_upto_region 11 with (fail)
      go_big_quiet (fail)
      go_wp2
      refine bodyPost_ret (results_tmp3 rfl _ _ _) rfl ?_
      exact ⟨rfl, HBB4.out.trans (below_dn3 HBB4.out.size)⟩
end
end Go.Proofs.YthifdofdoeaemaaGreatDoor.Wk
end
section
namespace Go.Proofs.YthifdofdoeaemaaGreatDoor.Wk
open Go.RowKit Go.Proofs.YthifdofdoeaemaaGreatDoorW.PrintWords Go.Proofs.YthifdofdoeaemaaGreatDoorW.PrintLast Go.Proofs.YthifdofdoeaemaaGreatDoorW.PrintMore
attribute [local go_sem] max2_int min2_int max_two min_two max_three min_three max_four min_four
set_option linter.unusedVariables false
set_option linter.unusedSimpArgs false
section
open Go.RowKit Go.Lib Go.Maps Go.Proofs.YthifdofdoeaemaaGreatDoorQ
attribute [local go_sem] Oper.semAt_some
theorem refAt_none (w : World) (g : Nat) (next : Int) (A : Option Addr) (c : Nat) (l : List (Int × GO)) (hr : RefR w g next A c l) (hb : l.length ≤ bound) (id : Int) (hn : ∀ x ∈ l, x.1 ≠ id) :
    Calls Tryz.prog 56 #[.pointer (some ⟨g, 0, none⟩), .int .i64 id] w fun e w' => e = .returned (.int .i64 (-1)) ∧ w' = w := by
  refine (refAt_calls w g next A c l id hr hb).mono ?_
  rintro e w' ⟨r, h, rfl, rfl⟩
  refine ⟨?_, rfl⟩
  rcases h with ⟨j, y, h1, h2, h3⟩ | ⟨h1, -⟩
  · exact absurd h2 (hn y (List.mem_of_getElem? h1))
  · rw [h1]
set_option maxHeartbeats 8000000 in
set_option maxRecDepth 100000 in
theorem refSlot_calls (w : World) (g : Nat) (G : GS) (A : Option Addr) (c : Nat) (hr : RefR w g G.next A c G.objs) (hok : Ok G) (p : ByteArray) (id e : Int) (nm : ByteArray) (h : slotG G p = some (id, nm, e)) :
    Calls Tryz.prog 87 #[.pointer (some ⟨g, 0, none⟩), .string p] w fun ev w' => ev = .returned (.tuple #[.int .i64 id, .string nm, .int .i64 e]) ∧ Below w.heap.size w w' := by
  have HR := Aside0.mk hr
  have HOK := Aside0.mk hok
  unfold slotG at h
  cases hp : placeG G p 11 with
  | none => rw [hp] at h; cases h
  | some r =>
    obtain ⟨pid, pn, pe⟩ := r
    rw [hp] at h
    simp only at h
    have HP := Aside0.mk hp
    clear hr hok hp
    by_cases hpe : pe = 0
    rotate_left
    · rw [if_neg hpe] at h
      obtain ⟨rfl, rfl, rfl⟩ : (0 : Int) = id ∧ (⟨#[]⟩ : ByteArray) = nm ∧ pe = e := by simpa using h
      have n1 : (pe != 0) = true := by simpa using hpe
      clear h
      go_enter Tryz.func87, Tryz.ntmps87
      go_wp2_with (go_at_call 89; refine (refPlace_calls _ g G A c HR.out HOK.out p 11 _ _ _ HP.out).mono ?_; rintro e_ w2 ⟨rfl, hw2⟩; have HW2 := Aside0.mk hw2; clear hw2)
      refine bodyPost_ret (results_tmp3 rfl _ _ _) rfl ?_
      exact ⟨rfl, HW2.out⟩
    subst hpe
    rw [if_pos rfl] at h
    cases ho : G.at pid with
    | none => rw [ho] at h; cases h
    | some x =>
      rw [ho] at h
      simp only at h
      obtain ⟨j, hj⟩ := at_idx ho
      have HJ := Aside0.mk hj
      clear ho hj
      cases hl : lnk x.links pn with
      | some k =>
        simp only [hl, Option.isSome_some, if_true] at h
        obtain ⟨rfl, rfl, rfl⟩ : (0 : Int) = id ∧ (⟨#[]⟩ : ByteArray) = nm ∧ (11 : Int) = e := by simpa using h
        have HL := Aside0.mk hl
        clear h hl
        go_enter Tryz.func87, Tryz.ntmps87
        go_wp2_with (first
          | (go_at_call 89; refine (refPlace_calls _ g G A c HR.out HOK.out p 11 _ _ _ HP.out).mono ?_; rintro e_ w2 ⟨rfl, hw2⟩; have HW2 := Aside0.mk hw2; clear hw2)
          | (go_at_call 90; refine (refLink_calls w2 g G.next A c G.objs (HR.out.below HW2.out) HOK.out.asc (ok_few HOK.out) HJ.out (ok_short HOK.out _ (List.mem_of_getElem? HJ.out)) pid rfl pn).mono ?_; rintro e_ w3 ⟨r3, hr3, rfl, m3, hw3⟩; have n3 : decide (0 ≤ r3) = true := (by rcases hr3 with ⟨q, k', -, -, e3⟩ | ⟨-, e3⟩; exact decide_eq_true (by omega); rw [HL.out] at e3; cases e3); have HW3 := Aside0.mk hw3; clear hr3 hw3))
        refine bodyPost_ret (results_tmp3 rfl _ _ _) rfl ?_
        exact ⟨rfl, by rw [HW3.out]; exact HW2.out.trans (below_dn3 HW2.out.size)⟩
      | none =>
        simp only [hl, Option.isSome_none, if_false, Bool.false_eq_true] at h
        obtain ⟨rfl, rfl, rfl⟩ : pid = id ∧ pn = nm ∧ (0 : Int) = e := by simpa using h
        have HL := Aside0.mk hl
        clear h hl
        go_enter Tryz.func87, Tryz.ntmps87
        go_wp2_with (first
          | (go_at_call 89; refine (refPlace_calls _ g G A c HR.out HOK.out p 11 _ _ _ HP.out).mono ?_; rintro e_ w2 ⟨rfl, hw2⟩; have HW2 := Aside0.mk hw2; clear hw2)
          | (go_at_call 90; refine (refLink_calls w2 g G.next A c G.objs (HR.out.below HW2.out) HOK.out.asc (ok_few HOK.out) HJ.out (ok_short HOK.out _ (List.mem_of_getElem? HJ.out)) pid rfl pn).mono ?_; rintro e_ w3 ⟨r3, hr3, rfl, m3, hw3⟩; have n3 : decide (0 ≤ r3) = false := (by rcases hr3 with ⟨q, k', -, e3, -⟩ | ⟨e3, -⟩; rw [HL.out] at e3; cases e3; exact decide_eq_false (by omega)); have HW3 := Aside0.mk hw3; clear hr3 hw3))
        refine bodyPost_ret (results_tmp3 rfl _ _ _) rfl ?_
        exact ⟨rfl, by rw [HW3.out]; exact HW2.out.trans (below_dn3 HW2.out.size)⟩
set_option maxHeartbeats 8000000 in
set_option maxRecDepth 100000 in
theorem refKind_calls (w : World) (g : Nat) (G : GS) (A : Option Addr) (c : Nat) (hr : RefR w g G.next A c G.objs) (hok : Ok G) (id k e : Int) (h : kindG G id = (k, e)) :
    Calls Tryz.prog 69 #[.pointer (some ⟨g, 0, none⟩), .int .i64 id] w fun ev w' => ev = .returned (.tuple #[.int .i64 k, .int .i64 e]) ∧ w' = w := by
  have HR := Aside0.mk hr
  have HOK := Aside0.mk hok
  unfold kindG at h
  cases ho : G.at id with
  | none =>
    rw [ho] at h
    obtain ⟨rfl, rfl⟩ : (0 : Int) = k ∧ (10 : Int) = e := by simpa using h
    have HN : Aside0 (∀ x ∈ G.objs, x.1 ≠ id) := ⟨fun x hx => at_none ho hx⟩
    clear hr hok h ho
    go_enter Tryz.func69, Tryz.ntmps69
    go_wp2_with (go_at_call 56; refine (refAt_none _ g _ A c G.objs HR.out (ok_few HOK.out) id HN.out).mono ?_; rintro e_ w2 ⟨rfl, h2⟩; obtain rfl := h2.symm)
    go_ret2
    exact ⟨rfl, rfl⟩
  | some x =>
    rw [ho] at h
    obtain ⟨rfl, rfl⟩ : x.kind = k ∧ (0 : Int) = e := by simpa using h
    obtain ⟨j, hj⟩ := at_idx ho
    obtain ⟨jv, hjv⟩ : ∃ jv, jv = (j : Int) := ⟨_, rfl⟩
    have hjl := (List.getElem?_eq_some_iff.1 hj).1
    have j0 : decide (jv < 0) = false := decide_eq_false (by omega)
    have j1 : (jv < (G.objs.length : Int)) = True := eq_true (by omega)
    have j2 : ((0 : Int) ≤ jv) = True := eq_true (by omega)
    have j3 : jv.toNat = j := by omega
    obtain ⟨b, o, Ax, cx, rfl, -, -, x1, -, -, -, -⟩ := hr.objs.at hj
    have c1 := hr.c1
    have HJ := Aside0.mk hj
    have HJV := Aside0.mk hjv
    clear hr hok h ho hj hjv hjl
    go_enter Tryz.func69, Tryz.ntmps69
    go_wp2_with (go_at_call 56; refine (refAt_at _ g _ _ c G.objs HR.out HOK.out.asc (ok_few HOK.out) HJ.out id jv rfl HJV.out).mono ?_; rintro e_ w2 ⟨rfl, h2⟩; obtain rfl := h2.symm)
    go_ret2
    exact ⟨rfl, rfl⟩
set_option maxHeartbeats 8000000 in
set_option maxRecDepth 100000 in
theorem refHold_calls (w0 w : World) (g : Nat) (F : Nat → Prop) (G : GS) (hM : MineR w0 w g F G.next G.objs) (hok : Ok G) (id e : Int) (G2 : GS) (h : holdG G id = some (e, G2)) :
    Calls Tryz.prog 71 #[.pointer (some ⟨g, 0, none⟩), .int .i64 id] w fun ev w' => ev = .returned (.int .i64 e) ∧ TurnR w0 w g F G2.next G2.objs w' := by
  obtain ⟨A, c, hr⟩ := hM.1.R
  have HR := Aside0.mk hr
  have HM := Aside0.mk hM
  have HOK := Aside0.mk hok
  unfold holdG at h
  cases ho : G.at id with
  | none =>
    rw [ho] at h
    obtain ⟨rfl, rfl⟩ : (10 : Int) = e ∧ G = G2 := by simpa using h
    have HN : Aside0 (∀ x ∈ G.objs, x.1 ≠ id) := ⟨fun x hx => at_none ho hx⟩
    clear hr hok h ho hM
    go_enter Tryz.func71, Tryz.ntmps71
    go_wp2_with (go_at_call 56; refine (refAt_none _ g _ A c G.objs HR.out (ok_few HOK.out) id HN.out).mono ?_; rintro e_ w2 ⟨rfl, h2⟩; obtain rfl := h2.symm)
    go_ret
    exact ⟨rfl, turnR_same HM.out (Below.refl _ _)⟩
  | some x =>
    rw [ho] at h
    simp only at h
    by_cases hh : -4611686018427387904 < x.held ∧ x.held < 4611686018427387904
    rotate_left
    · rw [if_neg hh] at h; cases h
    rw [if_pos hh] at h
    obtain ⟨rfl, rfl⟩ : (0 : Int) = e ∧ heldG G id (fun o => { o with held := o.held + 1 }) = G2 := by unfold heldG; simpa using h
    obtain ⟨j, hj⟩ := at_idx ho
    obtain ⟨jv, hjv⟩ : ∃ jv, jv = (j : Int) := ⟨_, rfl⟩
    have hjl := (List.getElem?_eq_some_iff.1 hj).1
    have j0 : decide (jv < 0) = false := decide_eq_false (by omega)
    have j1 : (jv < (G.objs.length : Int)) = True := eq_true (by omega)
    have j2 : ((0 : Int) ≤ jv) = True := eq_true (by omega)
    have j3 : jv.toNat = j := by omega
    have w1_ : wrap64 (x.held + 1) = x.held + 1 := by unfold wrap64; omega
    obtain ⟨b, c', Ax, cx, -, c1, hFb, hbl, -, -, -, -, x3, -, -, hfz⟩ := hM.1.at hj
    have f3 := hfz (j * 4 + 3)
    have hcc := hr.c1
    rw [c1] at hcc
    obtain ⟨rfl, rfl⟩ : some ⟨b, 0, none⟩ = A ∧ c' = c := by simpa using hcc
    have HC1 := Aside0.mk c1
    have HFB := Aside0.mk hFb
    have HJ := Aside0.mk hj
    have HJV := Aside0.mk hjv
    clear hr hok h ho hj hjv hjl hM hfz hh hbl hFb hcc
    go_enter Tryz.func71, Tryz.ntmps71
    go_wp2_with (go_at_call 56; refine (refAt_at _ g _ _ c' G.objs HR.out HOK.out.asc (ok_few HOK.out) HJ.out id jv rfl HJV.out).mono ?_; rintro e_ w2 ⟨rfl, h2⟩; obtain rfl := h2.symm)
    go_ret
    refine ⟨rfl, ?_⟩
    have hR := HM.out.1.held HJ.out (x.held + 1) HC1.out
    rw [← setO_at HOK.out.asc HJ.out (fun o => { o with held := o.held + 1 })] at hR
    exact turnR_of HM.out (SameOn.setCell _ _ _ (fun hn => hn HFB.out)) (hR.mono (fun k hk => .inl hk))
end
end Go.Proofs.YthifdofdoeaemaaGreatDoor.Wk
end
section
namespace Go.Proofs.YthifdofdoeaemaaGreatDoor.Wk
open Go.RowKit Go.Proofs.YthifdofdoeaemaaGreatDoorW.PrintWords Go.Proofs.YthifdofdoeaemaaGreatDoorW.PrintLast Go.Proofs.YthifdofdoeaemaaGreatDoorW.PrintMore
attribute [local go_sem] max2_int min2_int max_two min_two max_three min_three max_four min_four
set_option linter.unusedVariables false
set_option linter.unusedSimpArgs false
section
open Go.RowKit Go.Lib Go.Maps Go.Proofs.YthifdofdoeaemaaGreatDoorQ
attribute [local go_sem] Oper.semAt_some
theorem before_asymm {a b : List UInt8} (h : bytesBefore a b = true) : bytesBefore b a = false := by
  cases h2 : bytesBefore b a with
  | false => rfl
  | true => have := before_trans h h2; rw [before_irrefl] at this; cases this
theorem insB_at {x : Lk} : ∀ {l : List Lk} (k : Nat), k ≤ l.length → (∀ y ∈ l.take k, bytesBefore y.1.data.toList x.1.data.toList = true) → (∀ y, l[k]? = some y → bytesBefore x.1.data.toList y.1.data.toList = true) → insB x l = l.take k ++ x :: l.drop k
  | [], k, hk, _, _ => by
    obtain rfl : k = 0 := by simpa using hk
    rfl
  | y :: l, 0, _, _, h => by
    have := h y rfl
    unfold insB
    rw [this]
    rfl
  | y :: l, k + 1, hk, h1, h2 => by
    have hy := before_asymm (h1 y (by simp))
    have ih := insB_at (x := x) (l := l) k (by simpa using hk) (fun z hz => h1 z (by simp [hz])) (fun z hz => h2 z (by simpa using hz))
    unfold insB
    rw [hy, ih]
    rfl
theorem putK_at {x : Lk} {l : List Lk} (hn : lnk l x.1 = none) (k : Nat) (hk : k ≤ l.length) (h1 : ∀ y ∈ l.take k, bytesBefore y.1.data.toList x.1.data.toList = true) (h2 : ∀ y, l[k]? = some y → ¬ bytesBefore y.1.data.toList x.1.data.toList = true) : putK x l = l.take k ++ x :: l.drop k := by
  unfold putK
  rw [delK_not (fun z hz => lnk_none hn hz)]
  refine insB_at k hk h1 (fun y hy => before_total ?_ (fun e => lnk_none hn (List.mem_of_getElem? hy) (bytes_inj e)))
  cases hb : bytesBefore y.1.data.toList x.1.data.toList with
  | false => rfl
  | true => exact absurd hb (h2 y hy)
theorem LinksR.take {W : World} {A : Option Addr} {l : List Lk} (h : LinksR W A l) (k : Nat) : LinksR W A (l.take k) := fun h0 => by
  obtain ⟨b, o, hA, hl, hc⟩ := h (by rw [List.length_take] at h0; omega)
  exact ⟨b, o, hA, hl, fun j y hy => hc j y (by rw [List.getElem?_take] at hy; split at hy; exact hy; cases hy)⟩
theorem LinksR.drop {W : World} {b o : Nat} {l : List Lk} (h : LinksR W (some ⟨b, o, none⟩) l) (k : Nat) : LinksR W (some ⟨b, o + k * 3, none⟩) (l.drop k) := fun h0 => by
  obtain ⟨b', o', hA, hl, hc⟩ := h (by rw [List.length_drop] at h0; omega)
  cases hA
  refine ⟨b, o + k * 3, rfl, hl, fun j y hy => ?_⟩
  rw [List.getElem?_drop] at hy
  have := hc (k + j) y hy
  rw [show o + k * 3 + j * 3 = o + (k + j) * 3 by omega]
  exact this
theorem links_dropped {W : World} {A : Option Addr} {l : List Lk} (h : LinksR W A l) (j c : Nat) (hc : l.length ≤ c) : LinksR W (if c = j then A else A.map (·.add (j * 3))) (l.drop j) := by
  by_cases hcj : c = j
  · rw [List.drop_of_length_le (by omega)]
    exact fun h => absurd h (by simp)
  · rw [if_neg hcj]
    cases hl0 : l with
    | nil => simp only [List.drop_nil]; exact fun h => absurd h (by simp)
    | cons y ys =>
      obtain ⟨b9, o9, rfl, -⟩ := h (by rw [hl0]; simp)
      have h9 := h.drop j
      rw [hl0] at h9
      show LinksR W (some ((⟨b9, o9, none⟩ : Addr).add (j * 3))) _
      rw [Addr.add_lit]
      exact h9
theorem frozen_same {w W : World} (hb : Below w.heap.size w W) {b : Nat} (hbl : b < w.heap.size) {o : Nat} : W.frozen? ⟨b, o, none⟩ = w.frozen? ⟨b, o, none⟩ := by
  unfold World.frozen?
  rw [hb.block b hbl]
theorem one_links (W : World) (b : Nat) (k : Lk) (h : W.heap[b]? = some (.cells #[.string k.1, .int .i64 k.2.1, .string k.2.2] 42 (0, 0))) : LinksR W (some ⟨b, 0, none⟩) [k] := fun _ => ⟨b, 0, rfl, blk_lt h, fun j y hy => by
  match j, hy with
  | 0, hy =>
    obtain rfl : k = y := by simpa using hy
    exact ⟨(blk_cell h 0).trans rfl, (blk_cell h 1).trans rfl, (blk_cell h 2).trans rfl⟩⟩
theorem links_first (W0 : World) {W : World} (hb : Below W0.heap.size W0 W) {v : Value} (hv : W.ownsRow W0.heap.size 42 3 v 0 (cells3 [])) (A : Option Addr) (j c : Nat) {l : List Lk} (hl : LinksR W0 A l) (hj : (l.take j).length = j) (hlb : l.length ≤ bound) :
    ∃ A' c' W', (Builtin.append_ #[38, 38] 38 #[v, .slice A j c]).run Tryz.prog W = .ok (.slice A' j c') W' ∧ W'.ownsRow W0.heap.size 42 3 (.slice A' j c') j (cells3 (l.take j)) ∧ Below W0.heap.size W0 W' ∧ W.grownBy W' v.ownBlock := by
  obtain ⟨A', c', W', h1, h2, h3⟩ := links_appended (base := W0.heap.size) hb.size hv (n := j) (c := c) ((hl.below hb).take j) hj.symm (by have := hj; rw [List.length_take] at this; omega)
  rw [Nat.zero_add] at h1 h2
  exact ⟨A', c', W', h1, by simpa using h2, hb.grown h3 hb.size (fun k hk => (hv.lt k hk).1), h3⟩
set_option maxHeartbeats 16000000 in
set_option maxRecDepth 100000 in
theorem refPut_calls (w0 w : World) (g : Nat) (F : Nat → Prop) (next : Int) (l : List (Int × GO)) (hM : MineR w0 w g F next l) (ha : Asc l) (hb : l.length ≤ bound) {i : Nat} {x : Int × GO} (hx : l[i]? = some x) (hxb : x.2.links.length ≤ bound) (id : Int) (hid : id = x.1) (k : Lk) (hk : lnk x.2.links k.1 = none) (hk64 : k.1.size ≤ 64) (h64 : ∀ y ∈ x.2.links, y.1.size ≤ 64) :
    Calls Tryz.prog 88 #[.pointer (some ⟨g, 0, none⟩), .int .i64 id, .agg #[.string k.1, .int .i64 k.2.1, .string k.2.2]] w fun e w' => e = .returned (.tuple #[]) ∧ TurnR w0 w g F next (l.set i (x.1, { x.2 with links := putK k x.2.links })) w' := by
  obtain ⟨iv, hiv⟩ : ∃ iv, iv = (i : Int) := ⟨_, rfl⟩
  obtain ⟨b, c, Ax, cx, -, c1, hFb, hbl, hlc, -, -, x2, -, hcx, hxr, hfz⟩ := hM.1.at hx
  obtain ⟨A0, c0, hr0⟩ := hM.1.R
  have e0 := hr0.c1
  rw [c1] at e0
  obtain ⟨rfl, rfl⟩ : some ⟨b, 0, none⟩ = A0 ∧ c = c0 := by simpa using e0
  obtain ⟨W1, hW1⟩ : ∃ W1, W1 = w.alloc (.cells #[.string k.1, .int .i64 k.2.1, .string k.2.2] 42 (0, 0)) := ⟨_, rfl⟩
  have hb1 : Below w.heap.size w W1 := by rw [hW1]; exact below_alloc (Below.refl _ _) _
  have hpb : W1.heap[w.heap.size]? = some (.cells #[.string k.1, .int .i64 k.2.1, .string k.2.2] 42 (0, 0)) := by rw [hW1]; exact World.alloc_heap_new _ _
  obtain ⟨pb, hpbe⟩ : ∃ pb, pb = w.heap.size := ⟨_, rfl⟩
  rw [← hpbe] at hpb
  have c1' := (hb1.cell (World.block_lt_of_cell? _ _ c1)).trans c1
  have x2' := (hb1.cell (World.block_lt_of_cell? _ _ x2)).trans x2
  have HM := Aside0.mk hM
  have HA := Aside0.mk ha
  have HB := Aside0.mk hb
  have HX := Aside0.mk hx
  have HXB := Aside0.mk hxb
  have HID := Aside0.mk hid
  have HIV := Aside0.mk hiv
  have HK := Aside0.mk hk
  have HK64 := Aside0.mk hk64
  have H64 := Aside0.mk h64
  have HR0 := Aside0.mk hr0
  have HFB := Aside0.mk (And.intro hFb hbl)
  have HFZ := Aside0.mk hfz
  have HXR := Aside0.mk (hxr.below hb1)
  have HCX := Aside0.mk hcx
  have HC1 := Aside0.mk c1
  have HX20 := Aside0.mk x2
  have HFZ2 : Aside0 (∀ W, Below w.heap.size w W → W.frozen? ⟨b, i * 4 + 2, none⟩ = false) := ⟨fun W hbW => (frozen_same hbW hbl).trans (hfz _)⟩
  have HB1 := Aside0.mk hb1
  have HPB := Aside0.mk hpb
  have HPE := Aside0.mk hpbe
  have HW1 := Aside0.mk hW1
  have hil := (List.getElem?_eq_some_iff.1 hx).1
  have q2 : (iv < (l.length : Int)) = True := eq_true (by omega)
  have q3 : ((0 : Int) ≤ iv) = True := eq_true (by omega)
  have q4 : iv.toNat = i := by omega
  clear hM ha hb hx hxb hid hiv hk hk64 h64 hr0 e0 hFb hbl hfz hxr hcx hb1 hpb hW1 hlc hil c1 x2
  go_enter Tryz.func88, Tryz.ntmps88
  go_upto_region 1 with (fail)
  rw [← HW1.out, ← HPE.out]
  clear hpbe
  go_upto_region 4 with (go_at_call 56; refine (refAt_at _ g next _ c l (HR0.out.below HB1.out) HA.out HB.out HX.out id iv HID.out HIV.out).mono ?_; rintro e_ w_ ⟨rfl, h_⟩; obtain rfl := h_.symm)
  clear x2'
  go_loopg [8] x.2.links.length (fun kq v8 W => ∃ (j : Nat) (jv : Int), v8 = .int .i64 jv ∧ Aside0 (jv = (j : Int)) ∧ Aside0 (j ≤ x.2.links.length ∧ x.2.links.length - j ≤ kq) ∧ Aside0 (∀ y ∈ x.2.links.take j, bytesBefore y.1.data.toList k.1.data.toList = true) ∧ Aside0 (Below W1.heap.size W1 W))
  case atStart => exact ⟨0, 0, rfl, ⟨rfl⟩, ⟨by omega, by omega⟩, ⟨by simp⟩, ⟨Below.refl _ _⟩⟩
  case round =>
    obtain ⟨j, jv, rfl, HJV, HJ, HT, HBW⟩ := hrel
    have hp0 := (HBW.out.block _ (blk_lt HPB.out)).trans HPB.out
    have p0 : wr.cell? ⟨pb, 0, none⟩ = some (.string k.1) := (blk_cell hp0 0).trans rfl
    clear hp0
    by_cases hlt : j < x.2.links.length
    rotate_left
    · have q1 : decide (jv < (x.2.links.length : Int)) = false := decide_eq_false (by have := HJV.out; omega)
      have q5 : (jv < (x.2.links.length : Int)) = False := eq_false (by have := HJV.out; omega)
      have HSTOP : Aside0 (∀ y, x.2.links[j]? = some y → ¬ bytesBefore y.1.data.toList k.1.data.toList = true) := ⟨fun y hy => absurd (List.getElem?_eq_some_iff.1 hy).1 hlt⟩
      clear hlt q2 q3 q4
      go_upto_region 4 with (fail)
      go_big_quiet (fail)
      clear p0 q1 q5
      have HTK : Aside0 (putK k x.2.links = x.2.links.take j ++ k :: x.2.links.drop j) := ⟨putK_at HK.out j (by have := HJ.out; omega) HT.out HSTOP.out⟩
      obtain ⟨W2, hW2⟩ : ∃ W2, W2 = wr.drewN nq := ⟨_, rfl⟩
      rw [← hW2]
      have hb12 : Below W1.heap.size W1 W2 := by rw [hW2]; exact HBW.out.trans (below_dn3 HBW.out.size)
      clear hW2
      have HB02 : Aside0 (Below w.heap.size w W2) := ⟨HB1.out.trans (hb12.mono HB1.out.size)⟩
      have hp2 := (hb12.block _ (blk_lt HPB.out)).trans HPB.out
      have p0 : W2.cell? ⟨pb, 0, none⟩ = some (.string k.1) := (blk_cell hp2 0).trans rfl
      have p1 : W2.cell? ⟨pb, 1, none⟩ = some (.int .i64 k.2.1) := (blk_cell hp2 1).trans rfl
      have p2 : W2.cell? ⟨pb, 2, none⟩ = some (.string k.2.2) := (blk_cell hp2 2).trans rfl
      have c2 : W2.cell? ⟨g, 1, none⟩ = some (.slice (some ⟨b, 0, none⟩) l.length c) := (HB02.out.cell (World.block_lt_of_cell? _ _ HC1.out)).trans HC1.out
      obtain ⟨t0, ht0, hz0, hz1, hz2⟩ := info_parts (P := Tryz.prog) (e := 42) (z := .agg #[.string ⟨#[]⟩, .int .i64 0, .string ⟨#[]⟩]) (size := 3) (bytes := 40) (by kernel_rfl)
      have hjl : j ≤ x.2.links.length := HJ.out.1
      have hto := cut_to (P := Tryz.prog) 38 42 .i64 Tryz.underlying38 ht0 Ax x.2.links.length cx jv (by have := HJV.out; omega) (by have := HJV.out; omega) HCX.out
      have hfrom := cut_from (P := Tryz.prog) 38 42 .i64 Tryz.underlying38 ht0 3 hz1 Ax x.2.links.length cx jv (by have := HJV.out; omega) (by have := HJV.out; omega)
      rw [show jv.toNat = j by have := HJV.out; omega] at hto hfrom
      have HX2R : Aside0 (LinksR W2 Ax x.2.links) := ⟨HXR.out.below hb12⟩
      have hdrop : ∀ W, LinksR W Ax x.2.links → LinksR W (if cx = j then Ax else Ax.map (·.add (j * 3))) (x.2.links.drop j) := fun W hW => links_dropped hW j cx HCX.out
      obtain ⟨Af, hAf⟩ : ∃ Af, Af = (if cx = j then Ax else Ax.map (·.add (j * 3))) := ⟨_, rfl⟩
      rw [← hAf] at hfrom hdrop
      have HDROP := Aside0.mk hdrop
      have HTAKE : Aside0 ((x.2.links.take j).length = j) := ⟨by rw [List.length_take]; omega⟩
      have HDLEN : Aside0 ((x.2.links.drop j).length = x.2.links.length - j) := ⟨by rw [List.length_drop]⟩
      have HB12 := Aside0.mk hb12
      have HP2 := Aside0.mk hp2
      have hIV := HIV.out
      have hil := (List.getElem?_eq_some_iff.1 HX.out).1
      have q2 : (iv < (l.length : Int)) = True := eq_true (by omega)
      have q3 : ((0 : Int) ≤ iv) = True := eq_true (by omega)
      have q4 : iv.toNat = i := by omega
      clear hdrop hAf hjl ht0 hz0 hz1 hz2 hb12 hp2 hIV hil
      go_upto_region 6 with (fail)
      have HSF : Aside0 (∀ w', Below W2.heap.size W2 w' → w'.cell? ⟨g, 1, none⟩ = some (.slice (some ⟨b, 0, none⟩) l.length c) ∧ w'.cell? ⟨pb, 0, none⟩ = some (.string k.1) ∧ w'.cell? ⟨pb, 1, none⟩ = some (.int .i64 k.2.1) ∧ w'.cell? ⟨pb, 2, none⟩ = some (.string k.2.2)) := ⟨fun w' hb => ⟨(hb.cell (World.block_lt_of_cell? _ _ c2)).trans c2, (hb.cell (World.block_lt_of_cell? _ _ p0)).trans p0, (hb.cell (World.block_lt_of_cell? _ _ p1)).trans p1, (hb.cell (World.block_lt_of_cell? _ _ p2)).trans p2⟩⟩
      have BE : ∀ o, Below W2.heap.size W2 (W2.alloc o).drew := fun o => below_drew (below_alloc (Below.refl _ _) o)
      have BE2 : ∀ o o2, Below W2.heap.size W2 ((W2.alloc o).alloc o2).drew := fun o o2 => below_drew ((below_alloc (Below.refl _ _) o).trans ((below_alloc (Below.refl _ _) o2).mono (below_alloc (Below.refl _ _) o).size))
      have HBE := Aside0.mk BE
      have HBE2 := Aside0.mk BE2
      clear BE BE2
      refine start_ (n := 20) (S := fun w' => w'.cell? ⟨g, 1, none⟩ = some (.slice (some ⟨b, 0, none⟩) l.length c) ∧ w'.cell? ⟨pb, 0, none⟩ = some (.string k.1) ∧ w'.cell? ⟨pb, 1, none⟩ = some (.int .i64 k.2.1) ∧ w'.cell? ⟨pb, 2, none⟩ = some (.string k.2.2)) (ds := [19]) #[false, false, false, false, false, false, false, false, false, false, false, false, false, false, false, false, false, false, false, false] (by kernel_rfl) rfl rfl ⟨c2, p0, p1, p2⟩ (fun hHeld => ?_)
      refine pure_ (i := 0) (N := some 37) (v := ?_) (a' := ?_) (bb 20 1) rfl rfl (by kernel_rfl) (fun _ _ _ h => h) (Or.inl ⟨by rfl, ?_⟩) ?_ ?_
      rotate_left
      · intro w'
        go_simp
        with_reducible rfl
      rotate_left
      · simp only [Act.put, sa, sz, ss, i64_w, i32_w]
        rfl
      refine pure_ (i := 1) (N := some 38) (v := ?_) (a' := ?_) (bb 20 3) rfl rfl (by kernel_rfl) (fun _ _ _ h => h) (Or.inl ⟨by rfl, ?_⟩) ?_ ?_
      rotate_left
      · intro w'
        go_simp
        with_reducible rfl
      rotate_left
      · simp only [Act.put, sa, sz, ss, i64_w, i32_w]
        rfl
      refine pure_ (i := 2) (N := some 39) (v := ?_) (a' := ?_) (bb 20 7) rfl rfl (by kernel_rfl) (fun _ _ _ h => h) (Or.inl ⟨by rfl, ?_⟩) ?_ ?_
      rotate_left
      · intro w'
        go_simp
        with_reducible rfl
      rotate_left
      · simp only [Act.put, sa, sz, ss, i64_w, i32_w]
        rfl
      refine pure_ (i := 4) (N := some 41) (v := ?_) (a' := ?_) (bb 20 23) rfl rfl (by kernel_rfl) (fun _ _ _ h => h) (Or.inl ⟨by rfl, ?_⟩) ?_ ?_
      rotate_left
      · intro w'
        go_simp
        with_reducible rfl
      rotate_left
      · simp only [Act.put, sa, sz, ss, i64_w, i32_w]
        rfl
      refine pure_ (i := 6) (N := some 43) (v := ?_) (a' := ?_) (bb 20 87) rfl rfl (by kernel_rfl) (fun _ _ _ h => h) (Or.inl ⟨by rfl, ?_⟩) ?_ ?_
      rotate_left
      · intro w'
        go_simp
        with_reducible rfl
      rotate_left
      · simp only [Act.put, sa, sz, ss, i64_w, i32_w]
        rfl
      refine pure_ (i := 7) (N := some 44) (v := ?_) (a' := ?_) (bb 20 215) rfl rfl (by kernel_rfl) (fun _ _ _ h => h) (Or.inl ⟨by rfl, ?_⟩) ?_ ?_
      rotate_left
      · intro w'
        go_simp
        with_reducible rfl
      rotate_left
      · simp only [Act.put, sa, sz, ss, i64_w, i32_w]
        rfl
      refine pure_ (i := 8) (N := some 45) (v := ?_) (a' := ?_) (bb 20 471) rfl rfl (by kernel_rfl) (fun _ _ _ h => h) (Or.inl ⟨by rfl, ?_⟩) ?_ ?_
      rotate_left
      · intro w'
        go_simp
        with_reducible rfl
      rotate_left
      · simp only [Act.put, sa, sz, ss, i64_w, i32_w]
        rfl
      refine pure_ (i := 13) (N := some 50) (v := ?_) (a' := ?_) (bb 20 8663) rfl rfl (by kernel_rfl) (fun _ _ _ h => h) (Or.inl ⟨by rfl, ?_⟩) ?_ ?_
      rotate_left
      · intro w'
        go_simp
        with_reducible rfl
      rotate_left
      · simp only [Act.put, sa, sz, ss, i64_w, i32_w]
        rfl
      refine pure_ (i := 14) (N := some 51) (v := ?_) (a' := ?_) (bb 20 25047) rfl rfl (by kernel_rfl) (fun _ _ _ h => h) (Or.inl ⟨by rfl, ?_⟩) ?_ ?_
      rotate_left
      · intro w'
        go_simp
        with_reducible rfl
      rotate_left
      · simp only [Act.put, sa, sz, ss, i64_w, i32_w]
        rfl
      refine pure_ (i := 15) (N := some 52) (v := ?_) (a' := ?_) (bb 20 57815) rfl rfl (by kernel_rfl) (fun _ _ _ h => h) (Or.inl ⟨by rfl, ?_⟩) ?_ ?_
      rotate_left
      · intro w'
        go_simp
        with_reducible rfl
      rotate_left
      · simp only [Act.put, sa, sz, ss, i64_w, i32_w]
        rfl
      refine take_ (i := 3) (N := some 40) (v := ?_) (a' := ?_) (bb 20 57823) rfl rfl (by kernel_rfl) (fun _ _ _ h => h) (Or.inl ⟨by rfl, ?_⟩) hHeld ?_ ?_
      rotate_left
      · rintro w' ⟨s0, s1, s2, s3⟩
        go_simp
        with_reducible rfl
      rotate_left
      · simp only [Act.put, sa, sz, ss, i64_w, i32_w]
        rfl
      refine take_ (i := 10) (N := some 47) (v := ?_) (a' := ?_) (bb 20 58847) rfl rfl (by kernel_rfl) (fun _ _ _ h => h) (Or.inl ⟨by rfl, ?_⟩) hHeld ?_ ?_
      rotate_left
      · rintro w' ⟨s0, s1, s2, s3⟩
        go_simp
        with_reducible rfl
      rotate_left
      · simp only [Act.put, sa, sz, ss, i64_w, i32_w]
        rfl
      refine join_ (σ := Value × Value × Value) 5 #[true, true, true, true, true, true, true, true, true, true, true, true, false, true, true, true, false, false, false, false] (fun s => [(42, s.1), (46, s.2.1), (48, s.2.2)]) (fun s w' => Below W2.heap.size W2 w' ∧ w'.ownsRow W2.heap.size 42 3 s.2.1 j (cells3 (x.2.links.take j)) ∧ ∃ b3, s.2.2 = .slice (some ⟨b3, 0, none⟩) 1 1 ∧ w'.heap[b3]? = some (.cells #[.string k.1, .int .i64 k.2.1, .string k.2.2] 42 (0, 0))) ?_ ?_
      rotate_left
      · intro hCont
        refine two_ (i := 5) (j := 11) (Ni := some 42) (Nj := some 48) #[true, true, true, true, true, true, true, true, true, false, true, false, false, true, true, true, false, false, false, false] #[true, true, true, true, true, false, true, true, true, false, true, true, false, true, true, true, false, false, false, false] rfl rfl rfl rfl (by kernel_rfl) (by decide) (by decide) (fun K hK => ?_) (fun K hK => ?_)
        · skip
          refine value_ (w1 := ?_) (v := ?_) (by rfl) rfl ?_ ?_
          rotate_left 2
          · go_simp
            constructor
            · rfl
            · rfl
          refine hK.out _ _ ⟨(HSF.out _ (HBE.out _)).1, (HSF.out _ (HBE.out _)).2.1, (HSF.out _ (HBE.out _)).2.2.1, (HSF.out _ (HBE.out _)).2.2.2⟩ (fun hHeld => ?_)
          clear hK K
          refine norm_ (a' := ?_) ?_ ?_
          rotate_left
          · show Act.put _ (some 42) _ = _
            simp only [Act.put, sa, sz, ss, i64_w, i32_w]
            rfl
          refine two_ (i := 9) (j := 11) (Ni := some 46) (Nj := some 48) #[true, true, true, true, true, true, true, true, true, true, true, false, false, true, true, true, false, false, false, false] #[true, true, true, true, true, true, true, true, true, false, true, true, false, true, true, true, false, false, false, false] rfl rfl rfl rfl (by kernel_rfl) (by decide) (by decide) (fun K hK => ?_) (fun K hK => ?_)
          · skip
            obtain ⟨A9, c9, w9, hr9, ho9, hb9, -⟩ := links_first W2 (HBE.out _) (row_same (empty_own W2) (SameOn.of_below (S := fun _ => True) (below_drew (Below.refl _ _))) (fun _ _ => trivial)) Ax j cx HX2R.out HTAKE.out HXB.out
            refine step_append rfl (.tmp 42) (.tmp 45) 38 rfl rfl rfl hr9 ?_
            refine hK.out _ _ ⟨(HSF.out _ hb9).1, (HSF.out _ hb9).2.1, (HSF.out _ hb9).2.2.1, (HSF.out _ hb9).2.2.2⟩ (fun hHeld => ?_)
            clear hK K
            refine norm_ (a' := ?_) ?_ ?_
            rotate_left
            · show Act.put _ (some 46) _ = _
              simp only [Act.put, sa, sz, ss, i64_w, i32_w]
              rfl
            refine one_ (i := 11) (N := some 48) (bb 20 61439) rfl rfl (by kernel_rfl) (by decide) (fun K hK => ?_)
            have hb11 : Below W2.heap.size W2 (w9.alloc (.cells #[.string k.1, .int .i64 k.2.1, .string k.2.2] 42 (0, 0))) := hb9.trans ((below_alloc (Below.refl _ _) _).mono hb9.size)
            refine value_ (w1 := ?_) (v := ?_) (by rfl) rfl ?_ ?_
            rotate_left 2
            · go_simp
              constructor
              · rfl
              · rfl
            refine hK.out _ _ ⟨(HSF.out _ hb11).1, (HSF.out _ hb11).2.1, (HSF.out _ hb11).2.2.1, (HSF.out _ hb11).2.2.2⟩ (fun hHeld => ?_)
            clear hK K
            refine norm_ (a' := ?_) ?_ ?_
            rotate_left
            · show Act.put _ (some 48) _ = _
              simp only [Act.put, sa, sz, ss, i64_w, i32_w]
              rfl
            exact norm_ (by simp only [putAll, Act.put, List.setIfInBounds_toArray, List.set_cons_zero, List.set_cons_succ]) (hCont (.slice (some ⟨W2.heap.size, 0, none⟩) 0 0, .slice A9 j c9, .slice (some ⟨w9.heap.size, 0, none⟩) 1 1) _ ⟨hb11, row_same ho9 (SameOn.of_below (S := fun _ => True) (below_alloc (Below.refl _ _) _)) (fun _ _ => trivial), _, rfl, World.alloc_heap_new _ _⟩)
          · skip
            refine value_ (w1 := ?_) (v := ?_) (by rfl) rfl ?_ ?_
            rotate_left 2
            · go_simp
              constructor
              · rfl
              · rfl
            refine hK.out _ _ ⟨(HSF.out _ (HBE2.out _ _)).1, (HSF.out _ (HBE2.out _ _)).2.1, (HSF.out _ (HBE2.out _ _)).2.2.1, (HSF.out _ (HBE2.out _ _)).2.2.2⟩ (fun hHeld => ?_)
            clear hK K
            refine norm_ (a' := ?_) ?_ ?_
            rotate_left
            · show Act.put _ (some 48) _ = _
              simp only [Act.put, sa, sz, ss, i64_w, i32_w]
              rfl
            refine one_ (i := 9) (N := some 46) (bb 20 61439) rfl rfl (by kernel_rfl) (by decide) (fun K hK => ?_)
            have he1 : (W2.alloc (.cells #[] 42 (0, 0))).heap.size = W2.heap.size + 1 := by simp
            have ho11 : ((W2.alloc (.cells #[] 42 (0, 0))).alloc (.cells #[.string k.1, .int .i64 k.2.1, .string k.2.2] 42 (0, 0))).drew.heap[W2.heap.size + 1]? = some (.cells #[.string k.1, .int .i64 k.2.1, .string k.2.2] 42 (0, 0)) := by rw [← he1]; exact World.alloc_heap_new _ _
            obtain ⟨A9, c9, w9, hr9, ho9, hb9, hg9⟩ := links_first W2 (HBE2.out _ _) (row_same (empty_own W2) (SameOn.of_below (S := fun _ => True) (below_drew (below_alloc (Below.refl _ _) _))) (fun _ _ => trivial)) Ax j cx HX2R.out HTAKE.out HXB.out
            have hF9 := (hg9.block _ (blk_lt ho11) (by simp [Value.ownBlock])).trans ho11
            refine step_append rfl (.tmp 42) (.tmp 45) 38 rfl rfl rfl hr9 ?_
            refine hK.out _ _ ⟨(HSF.out _ hb9).1, (HSF.out _ hb9).2.1, (HSF.out _ hb9).2.2.1, (HSF.out _ hb9).2.2.2⟩ (fun hHeld => ?_)
            clear hK K
            refine norm_ (a' := ?_) ?_ ?_
            rotate_left
            · show Act.put _ (some 46) _ = _
              simp only [Act.put, sa, sz, ss, i64_w, i32_w]
              rfl
            exact norm_ (by simp only [putAll, Act.put, List.setIfInBounds_toArray, List.set_cons_zero, List.set_cons_succ]) (hCont (.slice (some ⟨W2.heap.size, 0, none⟩) 0 0, .slice A9 j c9, .slice (some ⟨W2.heap.size + 1, 0, none⟩) 1 1) _ ⟨hb9, ho9, _, rfl, hF9⟩)
        · skip
          refine value_ (w1 := ?_) (v := ?_) (by rfl) rfl ?_ ?_
          rotate_left 2
          · go_simp
            constructor
            · rfl
            · rfl
          refine hK.out _ _ ⟨(HSF.out _ (HBE.out _)).1, (HSF.out _ (HBE.out _)).2.1, (HSF.out _ (HBE.out _)).2.2.1, (HSF.out _ (HBE.out _)).2.2.2⟩ (fun hHeld => ?_)
          clear hK K
          refine norm_ (a' := ?_) ?_ ?_
          rotate_left
          · show Act.put _ (some 48) _ = _
            simp only [Act.put, sa, sz, ss, i64_w, i32_w]
            rfl
          refine one_ (i := 5) (N := some 42) (bb 20 60927) rfl rfl (by kernel_rfl) (by decide) (fun K hK => ?_)
          refine value_ (w1 := ?_) (v := ?_) (by rfl) rfl ?_ ?_
          rotate_left 2
          · go_simp
            constructor
            · rfl
            · rfl
          refine hK.out _ _ ⟨(HSF.out _ (HBE2.out _ _)).1, (HSF.out _ (HBE2.out _ _)).2.1, (HSF.out _ (HBE2.out _ _)).2.2.1, (HSF.out _ (HBE2.out _ _)).2.2.2⟩ (fun hHeld => ?_)
          clear hK K
          refine norm_ (a' := ?_) ?_ ?_
          rotate_left
          · show Act.put _ (some 42) _ = _
            simp only [Act.put, sa, sz, ss, i64_w, i32_w]
            rfl
          refine one_ (i := 9) (N := some 46) (bb 20 61439) rfl rfl (by kernel_rfl) (by decide) (fun K hK => ?_)
          have he1 : (W2.alloc (.cells #[.string k.1, .int .i64 k.2.1, .string k.2.2] 42 (0, 0))).heap.size = W2.heap.size + 1 := by simp
          have ho11 : ((W2.alloc (.cells #[.string k.1, .int .i64 k.2.1, .string k.2.2] 42 (0, 0))).alloc (.cells #[] 42 (0, 0))).drew.heap[W2.heap.size]? = some (.cells #[.string k.1, .int .i64 k.2.1, .string k.2.2] 42 (0, 0)) := ((below_alloc (Below.refl _ _) _).block _ (by rw [he1]; omega)).trans (World.alloc_heap_new _ _)
          have he0 := empty_own (W2.alloc (.cells #[.string k.1, .int .i64 k.2.1, .string k.2.2] 42 (0, 0)))
          rw [he1] at he0
          obtain ⟨A9, c9, w9, hr9, ho9, hb9, hg9⟩ := links_first W2 (HBE2.out _ _) ((row_same he0 (SameOn.of_below (S := fun _ => True) (below_drew (Below.refl _ _))) (fun _ _ => trivial)).mono (Nat.le_succ _)) Ax j cx HX2R.out HTAKE.out HXB.out
          have hF9 := (hg9.block _ (blk_lt ho11) (by simp [Value.ownBlock])).trans ho11
          refine step_append rfl (.tmp 42) (.tmp 45) 38 rfl rfl rfl hr9 ?_
          refine hK.out _ _ ⟨(HSF.out _ hb9).1, (HSF.out _ hb9).2.1, (HSF.out _ hb9).2.2.1, (HSF.out _ hb9).2.2.2⟩ (fun hHeld => ?_)
          clear hK K
          refine norm_ (a' := ?_) ?_ ?_
          rotate_left
          · show Act.put _ (some 46) _ = _
            simp only [Act.put, sa, sz, ss, i64_w, i32_w]
            rfl
          exact norm_ (by simp only [putAll, Act.put, List.setIfInBounds_toArray, List.set_cons_zero, List.set_cons_succ]) (hCont (.slice (some ⟨W2.heap.size + 1, 0, none⟩) 0 0, .slice A9 j c9, .slice (some ⟨W2.heap.size, 0, none⟩) 1 1) _ ⟨hb9, ho9, _, rfl, hF9⟩)
      rintro ⟨v42, v46, v48⟩ w6 ⟨hb6, ho6, b3, hv48, hb3⟩
      simp only at ho6 hv48
      obtain rfl := hv48
      have hHeld := HSF.out _ hb6
      obtain ⟨A12, c12, w12, hr12, ho12, hg12⟩ := links_appended (base := W2.heap.size) hb6.size ho6 (n := 1) (c := 1) (one_links w6 b3 k hb3) rfl (by show j + 1 ≤ _; have := HJ.out.1; have := HXB.out; unfold bound at *; omega)
      have hb12' : Below W2.heap.size W2 w12 := hb6.grown hg12 hb6.size (fun q hq => (ho6.lt q hq).1)
      obtain ⟨A16, c16, w16, hr16, ho16, hg16⟩ := links_appended (base := W2.heap.size) hb12'.size ho12 (n := x.2.links.length - j) (c := cx - j) (HDROP.out _ (HX2R.out.below hb12')) HDLEN.out.symm (by rw [HDLEN.out]; have := HJ.out.1; have := HXB.out; unfold bound at *; omega)
      have hb16 : Below W2.heap.size W2 w16 := hb12'.grown hg16 hb12'.size (fun q hq => (ho12.lt q hq).1)
      rw [show x.2.links.take j ++ [k] ++ x.2.links.drop j = putK k x.2.links by rw [HTK.out]; simp] at ho16
      have HB16 := Aside0.mk hb16
      have HO16 := Aside0.mk ho16
      have HR12 := Aside0.mk hr12
      have HR16 := Aside0.mk hr16
      have HB12' := Aside0.mk hb12'
      have hx2 := (HB16.out.cell (World.block_lt_of_cell? _ _ ((HB02.out.cell (World.block_lt_of_cell? _ _ HX20.out)).trans HX20.out))).trans ((HB02.out.cell (World.block_lt_of_cell? _ _ HX20.out)).trans HX20.out)
      have hf2 : w16.frozen? ⟨b, i * 4 + 2, none⟩ = false := HFZ2.out _ (HB02.out.trans (HB16.out.mono HB02.out.size))
      clear hb6 ho6 hb3 hr12 ho12 hg12 hb12' hr16 ho16 hg16 hb16
      refine norm_ (a' := ?_) ?_ ?_
      rotate_left
      · simp only [putAll, Act.put, List.setIfInBounds_toArray, List.set_cons_zero, List.set_cons_succ]
        rfl
      refine one_ (i := 12) (N := some 49) (bb 20 65535) rfl rfl (by kernel_rfl) (by decide) (fun K hK => ?_)
      refine step_append rfl (.tmp 46) (.tmp 48) 38 rfl rfl rfl HR12.out ?_
      refine hK.out _ _ ⟨(HSF.out _ HB12'.out).1, (HSF.out _ HB12'.out).2.1, (HSF.out _ HB12'.out).2.2.1, (HSF.out _ HB12'.out).2.2.2⟩ (fun hHeld => ?_)
      clear hK K
      refine norm_ (a' := ?_) ?_ ?_
      rotate_left
      · show Act.put _ (some 49) _ = _
        simp only [Act.put, sa, sz, ss, i64_w, i32_w]
        rfl
      refine one_ (i := 16) (N := some 53) (bb 20 131071) rfl rfl (by kernel_rfl) (by decide) (fun K hK => ?_)
      refine step_append rfl (.tmp 49) (.tmp 52) 38 rfl rfl rfl HR16.out ?_
      refine hK.out _ _ ⟨(HSF.out _ HB16.out).1, (HSF.out _ HB16.out).2.1, (HSF.out _ HB16.out).2.2.1, (HSF.out _ HB16.out).2.2.2⟩ (fun hHeld => ?_)
      clear hK K
      refine norm_ (a' := ?_) ?_ ?_
      rotate_left
      · show Act.put _ (some 53) _ = _
        simp only [Act.put, sa, sz, ss, i64_w, i32_w]
        rfl
      refine pure_ (i := 17) (N := some 54) (v := ?_) (a' := ?_) (bb 20 262143) rfl rfl (by kernel_rfl) (fun _ _ _ h => h) (Or.inl ⟨by rfl, ?_⟩) ?_ ?_
      rotate_left
      · intro w'
        go_simp
        with_reducible rfl
      rotate_left
      · simp only [Act.put, sa, sz, ss, i64_w, i32_w]
        rfl
      refine pure_ (i := 18) (N := some 55) (v := ?_) (a' := ?_) (bb 20 524287) rfl rfl (by kernel_rfl) (fun _ _ _ h => h) (Or.inl ⟨by rfl, ?_⟩) ?_ ?_
      rotate_left
      · intro w'
        go_simp
        with_reducible rfl
      rotate_left
      · simp only [Act.put, sa, sz, ss, i64_w, i32_w]
        rfl
      refine last_ (i := 19) (N := none) (bb 20 1048575) rfl rfl (by kernel_rfl) (by decide) (fun K hK => ?_)
      refine skip_ (w1 := ?_) (by rfl) rfl ?_ ?_
      rotate_left
      · go_simp
        rfl
      refine hK.out _ _ ?_
      clear hK K
      refine done_ (by kernel_rfl) ?_
      clear hx2 hf2 c2 p0 p1 p2 hto hfrom q2 q3 q4
      go_wp2
      go_end0
      refine ⟨rfl, ?_⟩
      have hbw : Below w.heap.size w w16 := HB02.out.trans (HB16.out.mono HB02.out.size)
      have hlk : j + 1 + (x.2.links.length - j) = (putK k x.2.links).length := by rw [HTK.out]; simp [HTAKE.out, HDLEN.out]; have := HJ.out.1; omega
      have h10 := HO16.out.mono HB02.out.size
      rw [hlk] at h10 ⊢
      have h9 := HM.out.1.links hbw HX.out h10 HC1.out
      exact turnR_of HM.out ((SameOn.of_below hbw).trans (SameOn.setCell _ _ _ (fun hn => hn HFB.out.1))) (h9.mono (fun q hq => hq.imp_right (fun a => ⟨a.1, by simpa using a.2⟩)))
    obtain ⟨y, hy⟩ : ∃ y, x.2.links[j]? = some y := ⟨_, List.getElem?_eq_getElem hlt⟩
    obtain ⟨b2, o2, hA2, -, y0, -, -⟩ := (HXR.out.below HBW.out).at hy
    have q1 : decide (jv < (x.2.links.length : Int)) = true := decide_eq_true (by have := HJV.out; omega)
    have q5 : (jv < (x.2.links.length : Int)) = True := eq_true (by have := HJV.out; omega)
    have q6 : ((0 : Int) ≤ jv) = True := eq_true (by have := HJV.out; omega)
    have q7 : jv.toNat = j := by have := HJV.out; omega
    obtain ⟨r, hrr, hrb⟩ := ref_cmp y.1 k.1 (by have := H64.out y (List.mem_of_getElem? hy); omega) (by have := HK64.out; omega)
    have HRR := Aside0.mk hrr
    have HRB := Aside0.mk hrb
    have HY := Aside0.mk hy
    have HLT := Aside0.mk hlt
    have HA2 := Aside0.mk hA2
    clear hy hlt hrr hrb q2 q3 q4
    by_cases hr0 : r < 0
    · have t2 : decide (r < 0) = true := decide_eq_true hr0
      have w1_ : wrap64 (jv + 1) = jv + 1 := wrap_ok9 _ (by have := HJV.out; omega) (by have := HJV.out; have := HXB.out; have := HLT.out; unfold bound at *; omega)
      have HBF : Aside0 (bytesBefore y.1.data.toList k.1.data.toList = true) := ⟨HRB.out.1 hr0⟩
      clear hr0
      obtain rfl := hA2
      go_upto_region 4 with (fail)
      go_big_quiet ((go_at_call 83; exact Calls.quiet_of (rcmp_calls y.1 k.1 r HRR.out _)))
      clear p0 y0 q1 q5 q6 q7
      go_wp2
      go_roundg (gk - 1)
      case measure => have := HJ.out; have := HLT.out; omega
      case rel => exact ⟨j + 1, jv + 1, by first | rfl | rw [w1_], ⟨by have := HJV.out; omega⟩, ⟨by have := HLT.out; omega, by have := HJ.out; omega⟩, ⟨fun z hz => by
        rw [List.take_add_one, HY.out] at hz
        rcases List.mem_append.1 hz with hz | hz
        · exact HT.out z hz
        · obtain rfl : z = y := by simpa using hz
          exact HBF.out⟩, ⟨HBW.out.trans (below_dn3 HBW.out.size)⟩⟩
    · have t2 : decide (r < 0) = false := decide_eq_false hr0
      have HSTOP : Aside0 (∀ z, x.2.links[j]? = some z → ¬ bytesBefore z.1.data.toList k.1.data.toList = true) := ⟨fun z hz => by
        rw [HY.out] at hz
        rw [← Option.some.inj hz]
        exact fun e => hr0 (HRB.out.2 e)⟩
      clear hr0
      obtain rfl := hA2
      go_upto_region 4 with (fail)
      go_big_quiet ((go_at_call 83; exact Calls.quiet_of (rcmp_calls y.1 k.1 r HRR.out _)))
      clear p0 y0 q1 q5 q6 q7
      have HTK : Aside0 (putK k x.2.links = x.2.links.take j ++ k :: x.2.links.drop j) := ⟨putK_at HK.out j (by have := HJ.out; omega) HT.out HSTOP.out⟩
      obtain ⟨W2, hW2⟩ : ∃ W2, W2 = wr.drewN nq := ⟨_, rfl⟩
      rw [← hW2]
      have hb12 : Below W1.heap.size W1 W2 := by rw [hW2]; exact HBW.out.trans (below_dn3 HBW.out.size)
      clear hW2
      have HB02 : Aside0 (Below w.heap.size w W2) := ⟨HB1.out.trans (hb12.mono HB1.out.size)⟩
      have hp2 := (hb12.block _ (blk_lt HPB.out)).trans HPB.out
      have p0 : W2.cell? ⟨pb, 0, none⟩ = some (.string k.1) := (blk_cell hp2 0).trans rfl
      have p1 : W2.cell? ⟨pb, 1, none⟩ = some (.int .i64 k.2.1) := (blk_cell hp2 1).trans rfl
      have p2 : W2.cell? ⟨pb, 2, none⟩ = some (.string k.2.2) := (blk_cell hp2 2).trans rfl
      have c2 : W2.cell? ⟨g, 1, none⟩ = some (.slice (some ⟨b, 0, none⟩) l.length c) := (HB02.out.cell (World.block_lt_of_cell? _ _ HC1.out)).trans HC1.out
      obtain ⟨t0, ht0, hz0, hz1, hz2⟩ := info_parts (P := Tryz.prog) (e := 42) (z := .agg #[.string ⟨#[]⟩, .int .i64 0, .string ⟨#[]⟩]) (size := 3) (bytes := 40) (by kernel_rfl)
      have hjl : j ≤ x.2.links.length := HJ.out.1
      have hto := cut_to (P := Tryz.prog) 38 42 .i64 Tryz.underlying38 ht0 (some ⟨b2, o2, none⟩ : Option Addr) x.2.links.length cx jv (by have := HJV.out; omega) (by have := HJV.out; omega) HCX.out
      have hfrom := cut_from (P := Tryz.prog) 38 42 .i64 Tryz.underlying38 ht0 3 hz1 (some ⟨b2, o2, none⟩ : Option Addr) x.2.links.length cx jv (by have := HJV.out; omega) (by have := HJV.out; omega)
      rw [show jv.toNat = j by have := HJV.out; omega] at hto hfrom
      have HX2R : Aside0 (LinksR W2 (some ⟨b2, o2, none⟩ : Option Addr) x.2.links) := ⟨HXR.out.below hb12⟩
      have hdrop : ∀ W, LinksR W (some ⟨b2, o2, none⟩ : Option Addr) x.2.links → LinksR W (if cx = j then (some ⟨b2, o2, none⟩ : Option Addr) else (some ⟨b2, o2, none⟩ : Option Addr).map (·.add (j * 3))) (x.2.links.drop j) := fun W hW => links_dropped hW j cx HCX.out
      obtain ⟨Af, hAf⟩ : ∃ Af, Af = (if cx = j then (some ⟨b2, o2, none⟩ : Option Addr) else (some ⟨b2, o2, none⟩ : Option Addr).map (·.add (j * 3))) := ⟨_, rfl⟩
      rw [← hAf] at hfrom hdrop
      have HDROP := Aside0.mk hdrop
      have HTAKE : Aside0 ((x.2.links.take j).length = j) := ⟨by rw [List.length_take]; omega⟩
      have HDLEN : Aside0 ((x.2.links.drop j).length = x.2.links.length - j) := ⟨by rw [List.length_drop]⟩
      have HB12 := Aside0.mk hb12
      have HP2 := Aside0.mk hp2
      have hIV := HIV.out
      have hil := (List.getElem?_eq_some_iff.1 HX.out).1
      have q2 : (iv < (l.length : Int)) = True := eq_true (by omega)
      have q3 : ((0 : Int) ≤ iv) = True := eq_true (by omega)
      have q4 : iv.toNat = i := by omega
      clear hdrop hAf hjl ht0 hz0 hz1 hz2 hb12 hp2 hIV hil
      go_upto_region 6 with (fail)
      have HSF : Aside0 (∀ w', Below W2.heap.size W2 w' → w'.cell? ⟨g, 1, none⟩ = some (.slice (some ⟨b, 0, none⟩) l.length c) ∧ w'.cell? ⟨pb, 0, none⟩ = some (.string k.1) ∧ w'.cell? ⟨pb, 1, none⟩ = some (.int .i64 k.2.1) ∧ w'.cell? ⟨pb, 2, none⟩ = some (.string k.2.2)) := ⟨fun w' hb => ⟨(hb.cell (World.block_lt_of_cell? _ _ c2)).trans c2, (hb.cell (World.block_lt_of_cell? _ _ p0)).trans p0, (hb.cell (World.block_lt_of_cell? _ _ p1)).trans p1, (hb.cell (World.block_lt_of_cell? _ _ p2)).trans p2⟩⟩
      have BE : ∀ o, Below W2.heap.size W2 (W2.alloc o).drew := fun o => below_drew (below_alloc (Below.refl _ _) o)
      have BE2 : ∀ o o2, Below W2.heap.size W2 ((W2.alloc o).alloc o2).drew := fun o o2 => below_drew ((below_alloc (Below.refl _ _) o).trans ((below_alloc (Below.refl _ _) o2).mono (below_alloc (Below.refl _ _) o).size))
      have HBE := Aside0.mk BE
      have HBE2 := Aside0.mk BE2
      clear BE BE2
      refine start_ (n := 20) (S := fun w' => w'.cell? ⟨g, 1, none⟩ = some (.slice (some ⟨b, 0, none⟩) l.length c) ∧ w'.cell? ⟨pb, 0, none⟩ = some (.string k.1) ∧ w'.cell? ⟨pb, 1, none⟩ = some (.int .i64 k.2.1) ∧ w'.cell? ⟨pb, 2, none⟩ = some (.string k.2.2)) (ds := [19]) #[false, false, false, false, false, false, false, false, false, false, false, false, false, false, false, false, false, false, false, false] (by kernel_rfl) rfl rfl ⟨c2, p0, p1, p2⟩ (fun hHeld => ?_)
      refine pure_ (i := 0) (N := some 37) (v := ?_) (a' := ?_) (bb 20 1) rfl rfl (by kernel_rfl) (fun _ _ _ h => h) (Or.inl ⟨by rfl, ?_⟩) ?_ ?_
      rotate_left
      · intro w'
        go_simp
        with_reducible rfl
      rotate_left
      · simp only [Act.put, sa, sz, ss, i64_w, i32_w]
        rfl
      refine pure_ (i := 1) (N := some 38) (v := ?_) (a' := ?_) (bb 20 3) rfl rfl (by kernel_rfl) (fun _ _ _ h => h) (Or.inl ⟨by rfl, ?_⟩) ?_ ?_
      rotate_left
      · intro w'
        go_simp
        with_reducible rfl
      rotate_left
      · simp only [Act.put, sa, sz, ss, i64_w, i32_w]
        rfl
      refine pure_ (i := 2) (N := some 39) (v := ?_) (a' := ?_) (bb 20 7) rfl rfl (by kernel_rfl) (fun _ _ _ h => h) (Or.inl ⟨by rfl, ?_⟩) ?_ ?_
      rotate_left
      · intro w'
        go_simp
        with_reducible rfl
      rotate_left
      · simp only [Act.put, sa, sz, ss, i64_w, i32_w]
        rfl
      refine pure_ (i := 4) (N := some 41) (v := ?_) (a' := ?_) (bb 20 23) rfl rfl (by kernel_rfl) (fun _ _ _ h => h) (Or.inl ⟨by rfl, ?_⟩) ?_ ?_
      rotate_left
      · intro w'
        go_simp
        with_reducible rfl
      rotate_left
      · simp only [Act.put, sa, sz, ss, i64_w, i32_w]
        rfl
      refine pure_ (i := 6) (N := some 43) (v := ?_) (a' := ?_) (bb 20 87) rfl rfl (by kernel_rfl) (fun _ _ _ h => h) (Or.inl ⟨by rfl, ?_⟩) ?_ ?_
      rotate_left
      · intro w'
        go_simp
        with_reducible rfl
      rotate_left
      · simp only [Act.put, sa, sz, ss, i64_w, i32_w]
        rfl
      refine pure_ (i := 7) (N := some 44) (v := ?_) (a' := ?_) (bb 20 215) rfl rfl (by kernel_rfl) (fun _ _ _ h => h) (Or.inl ⟨by rfl, ?_⟩) ?_ ?_
      rotate_left
      · intro w'
        go_simp
        with_reducible rfl
      rotate_left
      · simp only [Act.put, sa, sz, ss, i64_w, i32_w]
        rfl
      refine pure_ (i := 8) (N := some 45) (v := ?_) (a' := ?_) (bb 20 471) rfl rfl (by kernel_rfl) (fun _ _ _ h => h) (Or.inl ⟨by rfl, ?_⟩) ?_ ?_
      rotate_left
      · intro w'
        go_simp
        with_reducible rfl
      rotate_left
      · simp only [Act.put, sa, sz, ss, i64_w, i32_w]
        rfl
      refine pure_ (i := 13) (N := some 50) (v := ?_) (a' := ?_) (bb 20 8663) rfl rfl (by kernel_rfl) (fun _ _ _ h => h) (Or.inl ⟨by rfl, ?_⟩) ?_ ?_
      rotate_left
      · intro w'
        go_simp
        with_reducible rfl
      rotate_left
      · simp only [Act.put, sa, sz, ss, i64_w, i32_w]
        rfl
      refine pure_ (i := 14) (N := some 51) (v := ?_) (a' := ?_) (bb 20 25047) rfl rfl (by kernel_rfl) (fun _ _ _ h => h) (Or.inl ⟨by rfl, ?_⟩) ?_ ?_
      rotate_left
      · intro w'
        go_simp
        with_reducible rfl
      rotate_left
      · simp only [Act.put, sa, sz, ss, i64_w, i32_w]
        rfl
      refine pure_ (i := 15) (N := some 52) (v := ?_) (a' := ?_) (bb 20 57815) rfl rfl (by kernel_rfl) (fun _ _ _ h => h) (Or.inl ⟨by rfl, ?_⟩) ?_ ?_
      rotate_left
      · intro w'
        go_simp
        with_reducible rfl
      rotate_left
      · simp only [Act.put, sa, sz, ss, i64_w, i32_w]
        rfl
      refine take_ (i := 3) (N := some 40) (v := ?_) (a' := ?_) (bb 20 57823) rfl rfl (by kernel_rfl) (fun _ _ _ h => h) (Or.inl ⟨by rfl, ?_⟩) hHeld ?_ ?_
      rotate_left
      · rintro w' ⟨s0, s1, s2, s3⟩
        go_simp
        with_reducible rfl
      rotate_left
      · simp only [Act.put, sa, sz, ss, i64_w, i32_w]
        rfl
      refine take_ (i := 10) (N := some 47) (v := ?_) (a' := ?_) (bb 20 58847) rfl rfl (by kernel_rfl) (fun _ _ _ h => h) (Or.inl ⟨by rfl, ?_⟩) hHeld ?_ ?_
      rotate_left
      · rintro w' ⟨s0, s1, s2, s3⟩
        go_simp
        with_reducible rfl
      rotate_left
      · simp only [Act.put, sa, sz, ss, i64_w, i32_w]
        rfl
      refine join_ (σ := Value × Value × Value) 5 #[true, true, true, true, true, true, true, true, true, true, true, true, false, true, true, true, false, false, false, false] (fun s => [(42, s.1), (46, s.2.1), (48, s.2.2)]) (fun s w' => Below W2.heap.size W2 w' ∧ w'.ownsRow W2.heap.size 42 3 s.2.1 j (cells3 (x.2.links.take j)) ∧ ∃ b3, s.2.2 = .slice (some ⟨b3, 0, none⟩) 1 1 ∧ w'.heap[b3]? = some (.cells #[.string k.1, .int .i64 k.2.1, .string k.2.2] 42 (0, 0))) ?_ ?_
      rotate_left
      · intro hCont
        refine two_ (i := 5) (j := 11) (Ni := some 42) (Nj := some 48) #[true, true, true, true, true, true, true, true, true, false, true, false, false, true, true, true, false, false, false, false] #[true, true, true, true, true, false, true, true, true, false, true, true, false, true, true, true, false, false, false, false] rfl rfl rfl rfl (by kernel_rfl) (by decide) (by decide) (fun K hK => ?_) (fun K hK => ?_)
        · skip
          refine value_ (w1 := ?_) (v := ?_) (by rfl) rfl ?_ ?_
          rotate_left 2
          · go_simp
            constructor
            · rfl
            · rfl
          refine hK.out _ _ ⟨(HSF.out _ (HBE.out _)).1, (HSF.out _ (HBE.out _)).2.1, (HSF.out _ (HBE.out _)).2.2.1, (HSF.out _ (HBE.out _)).2.2.2⟩ (fun hHeld => ?_)
          clear hK K
          refine norm_ (a' := ?_) ?_ ?_
          rotate_left
          · show Act.put _ (some 42) _ = _
            simp only [Act.put, sa, sz, ss, i64_w, i32_w]
            rfl
          refine two_ (i := 9) (j := 11) (Ni := some 46) (Nj := some 48) #[true, true, true, true, true, true, true, true, true, true, true, false, false, true, true, true, false, false, false, false] #[true, true, true, true, true, true, true, true, true, false, true, true, false, true, true, true, false, false, false, false] rfl rfl rfl rfl (by kernel_rfl) (by decide) (by decide) (fun K hK => ?_) (fun K hK => ?_)
          · skip
            obtain ⟨A9, c9, w9, hr9, ho9, hb9, -⟩ := links_first W2 (HBE.out _) (row_same (empty_own W2) (SameOn.of_below (S := fun _ => True) (below_drew (Below.refl _ _))) (fun _ _ => trivial)) (some ⟨b2, o2, none⟩ : Option Addr) j cx HX2R.out HTAKE.out HXB.out
            refine step_append rfl (.tmp 42) (.tmp 45) 38 rfl rfl rfl hr9 ?_
            refine hK.out _ _ ⟨(HSF.out _ hb9).1, (HSF.out _ hb9).2.1, (HSF.out _ hb9).2.2.1, (HSF.out _ hb9).2.2.2⟩ (fun hHeld => ?_)
            clear hK K
            refine norm_ (a' := ?_) ?_ ?_
            rotate_left
            · show Act.put _ (some 46) _ = _
              simp only [Act.put, sa, sz, ss, i64_w, i32_w]
              rfl
            refine one_ (i := 11) (N := some 48) (bb 20 61439) rfl rfl (by kernel_rfl) (by decide) (fun K hK => ?_)
            have hb11 : Below W2.heap.size W2 (w9.alloc (.cells #[.string k.1, .int .i64 k.2.1, .string k.2.2] 42 (0, 0))) := hb9.trans ((below_alloc (Below.refl _ _) _).mono hb9.size)
            refine value_ (w1 := ?_) (v := ?_) (by rfl) rfl ?_ ?_
            rotate_left 2
            · go_simp
              constructor
              · rfl
              · rfl
            refine hK.out _ _ ⟨(HSF.out _ hb11).1, (HSF.out _ hb11).2.1, (HSF.out _ hb11).2.2.1, (HSF.out _ hb11).2.2.2⟩ (fun hHeld => ?_)
            clear hK K
            refine norm_ (a' := ?_) ?_ ?_
            rotate_left
            · show Act.put _ (some 48) _ = _
              simp only [Act.put, sa, sz, ss, i64_w, i32_w]
              rfl
            exact norm_ (by simp only [putAll, Act.put, List.setIfInBounds_toArray, List.set_cons_zero, List.set_cons_succ]) (hCont (.slice (some ⟨W2.heap.size, 0, none⟩) 0 0, .slice A9 j c9, .slice (some ⟨w9.heap.size, 0, none⟩) 1 1) _ ⟨hb11, row_same ho9 (SameOn.of_below (S := fun _ => True) (below_alloc (Below.refl _ _) _)) (fun _ _ => trivial), _, rfl, World.alloc_heap_new _ _⟩)
          · skip
            refine value_ (w1 := ?_) (v := ?_) (by rfl) rfl ?_ ?_
            rotate_left 2
            · go_simp
              constructor
              · rfl
              · rfl
            refine hK.out _ _ ⟨(HSF.out _ (HBE2.out _ _)).1, (HSF.out _ (HBE2.out _ _)).2.1, (HSF.out _ (HBE2.out _ _)).2.2.1, (HSF.out _ (HBE2.out _ _)).2.2.2⟩ (fun hHeld => ?_)
            clear hK K
            refine norm_ (a' := ?_) ?_ ?_
            rotate_left
            · show Act.put _ (some 48) _ = _
              simp only [Act.put, sa, sz, ss, i64_w, i32_w]
              rfl
            refine one_ (i := 9) (N := some 46) (bb 20 61439) rfl rfl (by kernel_rfl) (by decide) (fun K hK => ?_)
            have he1 : (W2.alloc (.cells #[] 42 (0, 0))).heap.size = W2.heap.size + 1 := by simp
            have ho11 : ((W2.alloc (.cells #[] 42 (0, 0))).alloc (.cells #[.string k.1, .int .i64 k.2.1, .string k.2.2] 42 (0, 0))).drew.heap[W2.heap.size + 1]? = some (.cells #[.string k.1, .int .i64 k.2.1, .string k.2.2] 42 (0, 0)) := by rw [← he1]; exact World.alloc_heap_new _ _
            obtain ⟨A9, c9, w9, hr9, ho9, hb9, hg9⟩ := links_first W2 (HBE2.out _ _) (row_same (empty_own W2) (SameOn.of_below (S := fun _ => True) (below_drew (below_alloc (Below.refl _ _) _))) (fun _ _ => trivial)) (some ⟨b2, o2, none⟩ : Option Addr) j cx HX2R.out HTAKE.out HXB.out
            have hF9 := (hg9.block _ (blk_lt ho11) (by simp [Value.ownBlock])).trans ho11
            refine step_append rfl (.tmp 42) (.tmp 45) 38 rfl rfl rfl hr9 ?_
            refine hK.out _ _ ⟨(HSF.out _ hb9).1, (HSF.out _ hb9).2.1, (HSF.out _ hb9).2.2.1, (HSF.out _ hb9).2.2.2⟩ (fun hHeld => ?_)
            clear hK K
            refine norm_ (a' := ?_) ?_ ?_
            rotate_left
            · show Act.put _ (some 46) _ = _
              simp only [Act.put, sa, sz, ss, i64_w, i32_w]
              rfl
            exact norm_ (by simp only [putAll, Act.put, List.setIfInBounds_toArray, List.set_cons_zero, List.set_cons_succ]) (hCont (.slice (some ⟨W2.heap.size, 0, none⟩) 0 0, .slice A9 j c9, .slice (some ⟨W2.heap.size + 1, 0, none⟩) 1 1) _ ⟨hb9, ho9, _, rfl, hF9⟩)
        · skip
          refine value_ (w1 := ?_) (v := ?_) (by rfl) rfl ?_ ?_
          rotate_left 2
          · go_simp
            constructor
            · rfl
            · rfl
          refine hK.out _ _ ⟨(HSF.out _ (HBE.out _)).1, (HSF.out _ (HBE.out _)).2.1, (HSF.out _ (HBE.out _)).2.2.1, (HSF.out _ (HBE.out _)).2.2.2⟩ (fun hHeld => ?_)
          clear hK K
          refine norm_ (a' := ?_) ?_ ?_
          rotate_left
          · show Act.put _ (some 48) _ = _
            simp only [Act.put, sa, sz, ss, i64_w, i32_w]
            rfl
          refine one_ (i := 5) (N := some 42) (bb 20 60927) rfl rfl (by kernel_rfl) (by decide) (fun K hK => ?_)
          refine value_ (w1 := ?_) (v := ?_) (by rfl) rfl ?_ ?_
          rotate_left 2
          · go_simp
            constructor
            · rfl
            · rfl
          refine hK.out _ _ ⟨(HSF.out _ (HBE2.out _ _)).1, (HSF.out _ (HBE2.out _ _)).2.1, (HSF.out _ (HBE2.out _ _)).2.2.1, (HSF.out _ (HBE2.out _ _)).2.2.2⟩ (fun hHeld => ?_)
          clear hK K
          refine norm_ (a' := ?_) ?_ ?_
          rotate_left
          · show Act.put _ (some 42) _ = _
            simp only [Act.put, sa, sz, ss, i64_w, i32_w]
            rfl
          refine one_ (i := 9) (N := some 46) (bb 20 61439) rfl rfl (by kernel_rfl) (by decide) (fun K hK => ?_)
          have he1 : (W2.alloc (.cells #[.string k.1, .int .i64 k.2.1, .string k.2.2] 42 (0, 0))).heap.size = W2.heap.size + 1 := by simp
          have ho11 : ((W2.alloc (.cells #[.string k.1, .int .i64 k.2.1, .string k.2.2] 42 (0, 0))).alloc (.cells #[] 42 (0, 0))).drew.heap[W2.heap.size]? = some (.cells #[.string k.1, .int .i64 k.2.1, .string k.2.2] 42 (0, 0)) := ((below_alloc (Below.refl _ _) _).block _ (by rw [he1]; omega)).trans (World.alloc_heap_new _ _)
          have he0 := empty_own (W2.alloc (.cells #[.string k.1, .int .i64 k.2.1, .string k.2.2] 42 (0, 0)))
          rw [he1] at he0
          obtain ⟨A9, c9, w9, hr9, ho9, hb9, hg9⟩ := links_first W2 (HBE2.out _ _) ((row_same he0 (SameOn.of_below (S := fun _ => True) (below_drew (Below.refl _ _))) (fun _ _ => trivial)).mono (Nat.le_succ _)) (some ⟨b2, o2, none⟩ : Option Addr) j cx HX2R.out HTAKE.out HXB.out
          have hF9 := (hg9.block _ (blk_lt ho11) (by simp [Value.ownBlock])).trans ho11
          refine step_append rfl (.tmp 42) (.tmp 45) 38 rfl rfl rfl hr9 ?_
          refine hK.out _ _ ⟨(HSF.out _ hb9).1, (HSF.out _ hb9).2.1, (HSF.out _ hb9).2.2.1, (HSF.out _ hb9).2.2.2⟩ (fun hHeld => ?_)
          clear hK K
          refine norm_ (a' := ?_) ?_ ?_
          rotate_left
          · show Act.put _ (some 46) _ = _
            simp only [Act.put, sa, sz, ss, i64_w, i32_w]
            rfl
          exact norm_ (by simp only [putAll, Act.put, List.setIfInBounds_toArray, List.set_cons_zero, List.set_cons_succ]) (hCont (.slice (some ⟨W2.heap.size + 1, 0, none⟩) 0 0, .slice A9 j c9, .slice (some ⟨W2.heap.size, 0, none⟩) 1 1) _ ⟨hb9, ho9, _, rfl, hF9⟩)
      rintro ⟨v42, v46, v48⟩ w6 ⟨hb6, ho6, b3, hv48, hb3⟩
      simp only at ho6 hv48
      obtain rfl := hv48
      have hHeld := HSF.out _ hb6
      obtain ⟨A12, c12, w12, hr12, ho12, hg12⟩ := links_appended (base := W2.heap.size) hb6.size ho6 (n := 1) (c := 1) (one_links w6 b3 k hb3) rfl (by show j + 1 ≤ _; have := HJ.out.1; have := HXB.out; unfold bound at *; omega)
      have hb12' : Below W2.heap.size W2 w12 := hb6.grown hg12 hb6.size (fun q hq => (ho6.lt q hq).1)
      obtain ⟨A16, c16, w16, hr16, ho16, hg16⟩ := links_appended (base := W2.heap.size) hb12'.size ho12 (n := x.2.links.length - j) (c := cx - j) (HDROP.out _ (HX2R.out.below hb12')) HDLEN.out.symm (by rw [HDLEN.out]; have := HJ.out.1; have := HXB.out; unfold bound at *; omega)
      have hb16 : Below W2.heap.size W2 w16 := hb12'.grown hg16 hb12'.size (fun q hq => (ho12.lt q hq).1)
      rw [show x.2.links.take j ++ [k] ++ x.2.links.drop j = putK k x.2.links by rw [HTK.out]; simp] at ho16
      have HB16 := Aside0.mk hb16
      have HO16 := Aside0.mk ho16
      have HR12 := Aside0.mk hr12
      have HR16 := Aside0.mk hr16
      have HB12' := Aside0.mk hb12'
      have hx2 := (HB16.out.cell (World.block_lt_of_cell? _ _ ((HB02.out.cell (World.block_lt_of_cell? _ _ HX20.out)).trans HX20.out))).trans ((HB02.out.cell (World.block_lt_of_cell? _ _ HX20.out)).trans HX20.out)
      have hf2 : w16.frozen? ⟨b, i * 4 + 2, none⟩ = false := HFZ2.out _ (HB02.out.trans (HB16.out.mono HB02.out.size))
      clear hb6 ho6 hb3 hr12 ho12 hg12 hb12' hr16 ho16 hg16 hb16
      refine norm_ (a' := ?_) ?_ ?_
      rotate_left
      · simp only [putAll, Act.put, List.setIfInBounds_toArray, List.set_cons_zero, List.set_cons_succ]
        rfl
      refine one_ (i := 12) (N := some 49) (bb 20 65535) rfl rfl (by kernel_rfl) (by decide) (fun K hK => ?_)
      refine step_append rfl (.tmp 46) (.tmp 48) 38 rfl rfl rfl HR12.out ?_
      refine hK.out _ _ ⟨(HSF.out _ HB12'.out).1, (HSF.out _ HB12'.out).2.1, (HSF.out _ HB12'.out).2.2.1, (HSF.out _ HB12'.out).2.2.2⟩ (fun hHeld => ?_)
      clear hK K
      refine norm_ (a' := ?_) ?_ ?_
      rotate_left
      · show Act.put _ (some 49) _ = _
        simp only [Act.put, sa, sz, ss, i64_w, i32_w]
        rfl
      refine one_ (i := 16) (N := some 53) (bb 20 131071) rfl rfl (by kernel_rfl) (by decide) (fun K hK => ?_)
      refine step_append rfl (.tmp 49) (.tmp 52) 38 rfl rfl rfl HR16.out ?_
      refine hK.out _ _ ⟨(HSF.out _ HB16.out).1, (HSF.out _ HB16.out).2.1, (HSF.out _ HB16.out).2.2.1, (HSF.out _ HB16.out).2.2.2⟩ (fun hHeld => ?_)
      clear hK K
      refine norm_ (a' := ?_) ?_ ?_
      rotate_left
      · show Act.put _ (some 53) _ = _
        simp only [Act.put, sa, sz, ss, i64_w, i32_w]
        rfl
      refine pure_ (i := 17) (N := some 54) (v := ?_) (a' := ?_) (bb 20 262143) rfl rfl (by kernel_rfl) (fun _ _ _ h => h) (Or.inl ⟨by rfl, ?_⟩) ?_ ?_
      rotate_left
      · intro w'
        go_simp
        with_reducible rfl
      rotate_left
      · simp only [Act.put, sa, sz, ss, i64_w, i32_w]
        rfl
      refine pure_ (i := 18) (N := some 55) (v := ?_) (a' := ?_) (bb 20 524287) rfl rfl (by kernel_rfl) (fun _ _ _ h => h) (Or.inl ⟨by rfl, ?_⟩) ?_ ?_
      rotate_left
      · intro w'
        go_simp
        with_reducible rfl
      rotate_left
      · simp only [Act.put, sa, sz, ss, i64_w, i32_w]
        rfl
      refine last_ (i := 19) (N := none) (bb 20 1048575) rfl rfl (by kernel_rfl) (by decide) (fun K hK => ?_)
      refine skip_ (w1 := ?_) (by rfl) rfl ?_ ?_
      rotate_left
      · go_simp
        rfl
      refine hK.out _ _ ?_
      clear hK K
      refine done_ (by kernel_rfl) ?_
      clear hx2 hf2 c2 p0 p1 p2 hto hfrom q2 q3 q4
      go_wp2
      go_end0
      refine ⟨rfl, ?_⟩
      have hbw : Below w.heap.size w w16 := HB02.out.trans (HB16.out.mono HB02.out.size)
      have hlk : j + 1 + (x.2.links.length - j) = (putK k x.2.links).length := by rw [HTK.out]; simp [HTAKE.out, HDLEN.out]; have := HJ.out.1; omega
      have h10 := HO16.out.mono HB02.out.size
      rw [hlk] at h10 ⊢
      have h9 := HM.out.1.links hbw HX.out h10 HC1.out
      exact turnR_of HM.out ((SameOn.of_below hbw).trans (SameOn.setCell _ _ _ (fun hn => hn HFB.out.1))) (h9.mono (fun q hq => hq.imp_right (fun a => ⟨a.1, by simpa using a.2⟩)))
end
end Go.Proofs.YthifdofdoeaemaaGreatDoor.Wk
end
section
namespace Go.Proofs.YthifdofdoeaemaaGreatDoor.Wk
open Go.RowKit Go.Proofs.YthifdofdoeaemaaGreatDoorW.PrintWords Go.Proofs.YthifdofdoeaemaaGreatDoorW.PrintLast Go.Proofs.YthifdofdoeaemaaGreatDoorW.PrintMore
attribute [local go_sem] max2_int min2_int max_two min_two max_three min_three max_four min_four
set_option linter.unusedVariables false
set_option linter.unusedSimpArgs false
section
open Go.RowKit Go.Lib Go.Maps Go.Proofs.YthifdofdoeaemaaGreatDoorQ
attribute [local go_sem] Oper.semAt_some
theorem TurnR.from {w0 w w1 w' : World} {g : Nat} {F : Nat → Prop} {next : Int} {l : List (Int × GO)} (h : TurnR w0 w1 g F next l w') (hb : Below w.heap.size w w1) : TurnR w0 w g F next l w' := by
  obtain ⟨F', h1, h2, h3, h4⟩ := h
  exact ⟨F', h1, h2, fun k hk => (h3 k hk).imp_right (fun a => Nat.le_trans hb.size a), (SameOn.of_below hb).trans h4⟩
theorem shape_leads (l : List (Int × GO)) (j : Int) (f : Int → Int) : shape (setO l j (fun o => { o with leads := f o.leads })) = shape l := by
  unfold shape setO
  rw [List.map_map]
  refine List.map_congr_left (fun x _ => ?_)
  simp only [Function.comp, shp]
  split <;> rfl
theorem shape_put {G : GS} (ha : Asc G.objs) {i : Nat} {id : Int} {o : GO} (hx : G.objs[i]? = some (id, o)) (x : Lk) : shape (G.objs.set i (id, { o with links := putK x o.links })) = shape (put2 G id x).objs := by
  rw [put2_objs, shape_leads _ _ (fun n => n + 1)]
  have := setO_at ha hx (fun o => { o with links := putK x o.links })
  simp only at this
  rw [this]
theorem names_small {G : GS} (h : Ok G) {x : Int × GO} (hx : x ∈ G.objs) : ∀ y ∈ x.2.links, y.1.size ≤ 64 := fun y hy => good_small (h.lk x hx y hy).1
theorem links_full {G : GS} (h : Ok G) : ((sumO lenO G.objs : Nat) : Int) = G.count := h.count.symm
set_option maxHeartbeats 16000000 in
set_option maxRecDepth 100000 in
theorem refSoft_calls (w0 w : World) (g : Nat) (F : Nat → Prop) (G : GS) (hM : MineR w0 w g F G.next G.objs) (hok : Ok G) (p t : ByteArray) (e : Int) (G2 : GS) (h : softG G p t = some (e, G2)) :
    Calls Tryz.prog 66 #[.pointer (some ⟨g, 0, none⟩), .string p, .string t] w fun ev w' => ev = .returned (.int .i64 e) ∧ TurnR w0 w g F G2.next G2.objs w' := by
  obtain ⟨A, c, hr⟩ := hM.1.R
  have HR := Aside0.mk hr
  have HM := Aside0.mk hM
  have HOK := Aside0.mk hok
  obtain ⟨l, a, y, hpp⟩ : ∃ l a y, parseP t = (l, a, y) := ⟨_, _, _, rfl⟩
  have HPP := Aside0.mk hpp
  unfold softG at h
  simp only [hpp] at h
  obtain ⟨⟨sid, snm, se⟩, hs, hso, hroom⟩ := slot_ok hok p
  simp only at hso hroom
  rw [hroom] at h
  have HS := Aside0.mk hs
  have HSO := Aside0.mk hso
  clear hr hM hok hpp hs hso hroom
  by_cases hy : y = 0
  rotate_left
  · rw [if_neg hy] at h
    obtain ⟨rfl, rfl⟩ : y = e ∧ G = G2 := by simpa using h
    have n1 : (y != 0) = true := by simpa using hy
    clear h hy
    go_enter Tryz.func66, Tryz.ntmps66
    go_wp2_with (go_at_call 84; refine (rparse_calls t l a y HPP.out _).mono ?_; rintro e_ w2 ⟨v, rfl, -, hw2⟩; have HW2 := Aside0.mk hw2; clear hw2)
    go_ret
    exact ⟨rfl, turnR_same HM.out HW2.out⟩
  subst hy
  rw [if_pos rfl] at h
  by_cases hse : se = 0
  rotate_left
  · rw [if_neg hse] at h
    simp only at h
    rw [if_neg hse] at h
    obtain ⟨rfl, rfl⟩ : se = e ∧ G = G2 := by simpa using h
    have n1 : (se != 0) = true := by simpa using hse
    clear h hse
    go_enter Tryz.func66, Tryz.ntmps66
    go_wp2_with (first
      | (go_at_call 84; refine (rparse_calls t l a 0 HPP.out _).mono ?_; rintro e_ w2 ⟨v, rfl, -, hw2⟩; have HW2 := Aside0.mk hw2; clear hw2)
      | (go_at_call 87; refine (refSlot_calls w2 g G A c (HR.out.below HW2.out) HOK.out p _ _ _ HS.out).mono ?_; rintro e_ w3 ⟨rfl, hw3⟩; have HW3 := Aside0.mk hw3; clear hw3))
    go_ret
    exact ⟨rfl, turnR_same HM.out (HW2.out.trans (HW3.out.mono HW2.out.size))⟩
  subst hse
  obtain ⟨o, ho, hk, hg, hln⟩ := HSO.out rfl
  rw [if_pos rfl] at h
  simp only at h
  have hcnt := links_full HOK.out
  have hle := HOK.out.links
  have HLE : Aside0 (sumO lenO G.objs ≤ 1000000000) := ⟨by omega⟩
  by_cases hc : G.count = 256
  · rw [if_pos hc, if_neg (by decide)] at h
    obtain ⟨rfl, rfl⟩ : (7 : Int) = e ∧ G = G2 := by simpa using h
    obtain ⟨cv, hcv⟩ : ∃ cv, cv = ((sumO lenO G.objs : Nat) : Int) := ⟨_, rfl⟩
    have n2 : decide (256 ≤ cv) = true := decide_eq_true (by omega)
    have HCV := Aside0.mk hcv
    clear h hc hcnt hle hcv ho hk hg hln
    go_enter Tryz.func66, Tryz.ntmps66
    go_wp2_with (first
      | (go_at_call 84; refine (rparse_calls t l a 0 HPP.out _).mono ?_; rintro e_ w2 ⟨v, rfl, -, hw2⟩; have HW2 := Aside0.mk hw2; clear hw2)
      | (go_at_call 87; refine (refSlot_calls w2 g G A c (HR.out.below HW2.out) HOK.out p _ _ _ HS.out).mono ?_; rintro e_ w3 ⟨rfl, hw3⟩; have HW3 := Aside0.mk hw3; clear hw3)
      | (go_at_call 54; refine (refLinks_calls w3 g _ A c G.objs ((HR.out.below HW2.out).below HW3.out) (ok_few HOK.out) HLE.out).mono ?_; rw [← HCV.out]; rintro e_ w4 ⟨rfl, hw4⟩; obtain rfl := hw4.symm))
    go_ret
    exact ⟨rfl, turnR_same HM.out (HW2.out.trans (HW3.out.mono HW2.out.size))⟩
  rw [if_neg hc, if_pos rfl, put_some HOK.out ho (.inl rfl)] at h
  obtain ⟨rfl, rfl⟩ : (0 : Int) = e ∧ put2 G sid (snm, 0, t) = G2 := by simpa using h
  obtain ⟨cv, hcv⟩ : ∃ cv, cv = ((sumO lenO G.objs : Nat) : Int) := ⟨_, rfl⟩
  have n2 : decide (256 ≤ cv) = false := decide_eq_false (by omega)
  obtain ⟨i, hi⟩ := List.mem_iff_getElem?.1 ho
  have HI := Aside0.mk hi
  have HCV := Aside0.mk hcv
  have HLN := Aside0.mk hln
  have HGD := Aside0.mk (good_small hg)
  have HNS := Aside0.mk (names_small HOK.out ho)
  have HXB := Aside0.mk (ok_short HOK.out _ ho)
  clear h hc hcnt hle hcv ho hk hg hln hi
  go_enter Tryz.func66, Tryz.ntmps66
  go_wp2_with (first
    | (go_at_call 84; refine (rparse_calls t l a 0 HPP.out _).mono ?_; rintro e_ w2 ⟨v, rfl, -, hw2⟩; have HW2 := Aside0.mk hw2; clear hw2)
    | (go_at_call 87; refine (refSlot_calls w2 g G A c (HR.out.below HW2.out) HOK.out p _ _ _ HS.out).mono ?_; rintro e_ w3 ⟨rfl, hw3⟩; have HW3 := Aside0.mk (HW2.out.trans (hw3.mono HW2.out.size)); clear hw3)
    | (go_at_call 54; refine (refLinks_calls w3 g _ A c G.objs (HR.out.below HW3.out) (ok_few HOK.out) HLE.out).mono ?_; rw [← HCV.out]; rintro e_ w4 ⟨rfl, hw4⟩; obtain rfl := hw4.symm)
    | (go_at_call 88; refine (refPut_calls w0 w3 g F G.next G.objs (HM.out.step HW3.out) HOK.out.asc (ok_few HOK.out) HI.out HXB.out sid rfl (snm, 0, t) HLN.out HGD.out HNS.out).mono ?_; rintro e_ w5 ⟨rfl, hw5⟩; have HW5 := Aside0.mk hw5; clear hw5))
  go_ret
  exact ⟨rfl, (HW5.out.from HW3.out).shape (shape_put HOK.out.asc HI.out (snm, 0, t))⟩
end
end Go.Proofs.YthifdofdoeaemaaGreatDoor.Wk
end
section
namespace Go.Proofs.YthifdofdoeaemaaGreatDoor.Wk
open Go.RowKit Go.Proofs.YthifdofdoeaemaaGreatDoorW.PrintWords Go.Proofs.YthifdofdoeaemaaGreatDoorW.PrintLast Go.Proofs.YthifdofdoeaemaaGreatDoorW.PrintMore
attribute [local go_sem] max2_int min2_int max_two min_two max_three min_three max_four min_four
set_option linter.unusedVariables false
set_option linter.unusedSimpArgs false
section
open Go.RowKit Go.Lib Go.Maps Go.Proofs.YthifdofdoeaemaaGreatDoorQ
attribute [local go_sem] Oper.semAt_some
set_option maxHeartbeats 16000000 in
set_option maxRecDepth 100000 in
theorem refLinkAdd_calls (w0 w : World) (g : Nat) (F : Nat → Prop) (G : GS) (hM : MineR w0 w g F G.next G.objs) (hok : Ok G) (p t : ByteArray) (e : Int) (G2 : GS) (h : linkG G p t = some (e, G2)) :
    Calls Tryz.prog 65 #[.pointer (some ⟨g, 0, none⟩), .string p, .string t] w fun ev w' => ev = .returned (.int .i64 e) ∧ TurnR w0 w g F G2.next G2.objs w' := by
  obtain ⟨A, c, hr⟩ := hM.1.R
  have HR := Aside0.mk hr
  have HM := Aside0.mk hM
  have HOK := Aside0.mk hok
  unfold linkG at h
  obtain ⟨⟨fid, fe⟩, hf, hfo, -⟩ := find_ok hok t
  rw [hf] at h
  simp only at h hfo
  obtain ⟨⟨sid, snm, se⟩, hs, hso, hroom⟩ := slot_ok hok p
  simp only at hso hroom
  rw [hroom] at h
  have HF := Aside0.mk hf
  have HFO := Aside0.mk hfo
  have HS := Aside0.mk hs
  have HSO := Aside0.mk hso
  clear hr hM hok hf hfo hs hso hroom
  by_cases hy : fe = 0
  rotate_left
  · rw [if_neg hy] at h
    obtain ⟨rfl, rfl⟩ : fe = e ∧ G = G2 := by simpa using h
    have n1 : (fe != 0) = true := by simpa using hy
    clear h hy
    go_enter Tryz.func65, Tryz.ntmps65
    go_wp2_with (go_at_call 68; refine (refFind_calls _ g G A c HR.out HOK.out t _ _ HF.out).mono ?_; rintro e_ w2 ⟨rfl, hw2⟩; have HW2 := Aside0.mk hw2; clear hw2)
    go_ret
    exact ⟨rfl, turnR_same HM.out HW2.out⟩
  subst hy
  rw [if_pos rfl] at h
  obtain ⟨fo, hfo⟩ := HFO.out rfl
  rw [HOK.out.obj hfo] at h
  simp only at h
  obtain ⟨j, hj⟩ := List.mem_iff_getElem?.1 hfo
  obtain ⟨jv, hjv⟩ : ∃ jv, jv = (j : Int) := ⟨_, rfl⟩
  have hjl := (List.getElem?_eq_some_iff.1 hj).1
  have j1 : (jv < (G.objs.length : Int)) = True := eq_true (by omega)
  have j2 : ((0 : Int) ≤ jv) = True := eq_true (by omega)
  have j3 : jv.toNat = j := by omega
  have hid1 := (HOK.out.ids _ hfo).1
  have HJ := Aside0.mk hj
  have HJV := Aside0.mk hjv
  have HID1 := Aside0.mk hid1
  have HFM := Aside0.mk hfo
  clear hj hjv hjl hid1 hfo
  by_cases hk : fo.kind = 1
  · rw [if_pos hk] at h
    obtain ⟨rfl, rfl⟩ : (12 : Int) = e ∧ G = G2 := by simpa using h
    have hkb : (fo.kind == 1) = true := by simpa using hk
    clear h hk
    go_enter Tryz.func65, Tryz.ntmps65
    go_upto_region 4 with (go_at_call 68; refine (refFind_calls _ g G A c HR.out HOK.out t _ _ HF.out).mono ?_; rintro e_ w2 ⟨rfl, hw2⟩; have HW2 := Aside0.mk hw2; clear hw2)
    obtain ⟨b, o, Ax, cx, hAe, -, -, x1, -, -, -, -⟩ := (HR.out.below HW2.out).objs.at HJ.out
    subst hAe
    have c1 := (HR.out.below HW2.out).c1
    go_big_quiet ((go_at_call 56; exact Calls.quiet_of_same (refAt_at _ g _ _ c G.objs ((HR.out.below HW2.out).below (below_dn2 _ _)) HOK.out.asc (ok_few HOK.out) HJ.out fid jv rfl HJV.out)))
    go_wp2
    go_ret
    exact ⟨rfl, turnR_same HM.out (HW2.out.trans (below_dn3 HW2.out.size))⟩
  rw [if_neg hk] at h
  have hkb : (fo.kind == 1) = false := by simpa using hk
  clear hk
  go_enter Tryz.func65, Tryz.ntmps65
  go_upto_region 4 with (go_at_call 68; refine (refFind_calls _ g G A c HR.out HOK.out t _ _ HF.out).mono ?_; rintro e_ w2 ⟨rfl, hw2⟩; have HW2 := Aside0.mk hw2; clear hw2)
  obtain ⟨b, o, Ax, cx, hAe, -, -, x1, -, -, -, -⟩ := (HR.out.below HW2.out).objs.at HJ.out
  subst hAe
  have c1 := (HR.out.below HW2.out).c1
  go_big_quiet ((go_at_call 56; exact Calls.quiet_of_same (refAt_at _ g _ _ c G.objs ((HR.out.below HW2.out).below (below_dn2 _ _)) HOK.out.asc (ok_few HOK.out) HJ.out fid jv rfl HJV.out)))
  clear c1 x1 j1 j2 j3 hkb
  obtain ⟨W3, hW3⟩ : ∃ W3, W3 = w2.drewN nq := ⟨_, rfl⟩
  rw [← hW3]
  have HW3 : Aside0 (Below w.heap.size w W3) := ⟨by rw [hW3]; exact HW2.out.trans (below_dn3 HW2.out.size)⟩
  clear hW3
  by_cases hse : se = 0
  rotate_left
  · rw [if_neg hse] at h
    simp only at h
    rw [if_neg hse] at h
    obtain ⟨rfl, rfl⟩ : se = e ∧ G = G2 := by simpa using h
    have n1 : (se != 0) = true := by simpa using hse
    clear h hse
    go_wp2_with (go_at_call 87; refine (refSlot_calls W3 g G _ c (HR.out.below HW3.out) HOK.out p _ _ _ HS.out).mono ?_; rintro e_ w4 ⟨rfl, hw4⟩; have HW4 := Aside0.mk (HW3.out.trans (hw4.mono HW3.out.size)); clear hw4)
    go_ret
    exact ⟨rfl, turnR_same HM.out HW4.out⟩
  subst hse
  obtain ⟨o', ho, hk, hg, hln⟩ := HSO.out rfl
  rw [if_pos rfl] at h
  simp only at h
  have hcnt := links_full HOK.out
  have hle := HOK.out.links
  have HLE : Aside0 (sumO lenO G.objs ≤ 1000000000) := ⟨by omega⟩
  obtain ⟨cv, hcv⟩ : ∃ cv, cv = ((sumO lenO G.objs : Nat) : Int) := ⟨_, rfl⟩
  have HCV := Aside0.mk hcv
  by_cases hc : G.count = 256
  · rw [if_pos hc, if_neg (by decide)] at h
    obtain ⟨rfl, rfl⟩ : (7 : Int) = e ∧ G = G2 := by simpa using h
    have n2 : decide (256 ≤ cv) = true := decide_eq_true (by omega)
    clear h hc hcnt hle hcv ho hk hg hln
    go_wp2_with (first
      | (go_at_call 87; refine (refSlot_calls W3 g G _ c (HR.out.below HW3.out) HOK.out p _ _ _ HS.out).mono ?_; rintro e_ w4 ⟨rfl, hw4⟩; have HW4 := Aside0.mk (HW3.out.trans (hw4.mono HW3.out.size)); clear hw4)
      | (go_at_call 54; refine (refLinks_calls w4 g _ _ c G.objs (HR.out.below HW4.out) (ok_few HOK.out) HLE.out).mono ?_; rw [← HCV.out]; rintro e_ w5 ⟨rfl, hw5⟩; obtain rfl := hw5.symm))
    go_ret
    exact ⟨rfl, turnR_same HM.out HW4.out⟩
  rw [if_neg hc, if_pos rfl, put_some HOK.out ho (.inr ⟨by show 0 < fid; have := HID1.out; omega, _, HFM.out⟩)] at h
  obtain ⟨rfl, rfl⟩ : (0 : Int) = e ∧ put2 G sid (snm, fid, ⟨#[]⟩) = G2 := by simpa using h
  have n2 : decide (256 ≤ cv) = false := decide_eq_false (by omega)
  obtain ⟨i, hi⟩ := List.mem_iff_getElem?.1 ho
  have HI := Aside0.mk hi
  have HLN := Aside0.mk hln
  have HGD := Aside0.mk (good_small hg)
  have HNS := Aside0.mk (names_small HOK.out ho)
  have HXB := Aside0.mk (ok_short HOK.out _ ho)
  clear h hc hcnt hle hcv ho hk hg hln hi
  go_wp2_with (first
    | (go_at_call 87; refine (refSlot_calls W3 g G _ c (HR.out.below HW3.out) HOK.out p _ _ _ HS.out).mono ?_; rintro e_ w4 ⟨rfl, hw4⟩; have HW4 := Aside0.mk (HW3.out.trans (hw4.mono HW3.out.size)); clear hw4)
    | (go_at_call 54; refine (refLinks_calls w4 g _ _ c G.objs (HR.out.below HW4.out) (ok_few HOK.out) HLE.out).mono ?_; rw [← HCV.out]; rintro e_ w5 ⟨rfl, hw5⟩; obtain rfl := hw5.symm)
    | (go_at_call 88; refine (refPut_calls w0 w4 g F G.next G.objs (HM.out.step HW4.out) HOK.out.asc (ok_few HOK.out) HI.out HXB.out sid rfl (snm, fid, ⟨#[]⟩) HLN.out HGD.out HNS.out).mono ?_; rintro e_ w6 ⟨rfl, hw6⟩; have HW6 := Aside0.mk hw6; clear hw6))
  go_ret
  exact ⟨rfl, (HW6.out.from HW4.out).shape (shape_put HOK.out.asc HI.out (snm, fid, ⟨#[]⟩))⟩
end
end Go.Proofs.YthifdofdoeaemaaGreatDoor.Wk
end
section
namespace Go.Proofs.YthifdofdoeaemaaGreatDoor.Wk
open Go.RowKit Go.Proofs.YthifdofdoeaemaaGreatDoorW.PrintWords Go.Proofs.YthifdofdoeaemaaGreatDoorW.PrintLast Go.Proofs.YthifdofdoeaemaaGreatDoorW.PrintMore
attribute [local go_sem] max2_int min2_int max_two min_two max_three min_three max_four min_four
set_option linter.unusedVariables false
set_option linter.unusedSimpArgs false
section
open Go.RowKit Go.Lib Go.Maps Go.Proofs.YthifdofdoeaemaaGreatDoorQ
attribute [local go_sem] Oper.semAt_some
theorem RefF.renumber {w : World} {F : Nat → Prop} {g : Nat} {next : Int} {l : List (Int × GO)} (h : RefF w F g next l) (n : Int) : RefF (w.setCell ⟨g, 0, none⟩ (.int .i64 n)) F g n l ∧ w.frozen? ⟨g, 0, none⟩ = false := by
  obtain ⟨h0, v, sl, h1, h2, h3, h4, h5⟩ := h
  have ap : ∀ {e : TypeId} {z : Value} {m sz : Nat} {ys : List Value}, e ≠ 104 → w.ownsRow 0 e sz z m ys → (w.setCell ⟨g, 0, none⟩ (.int .i64 n)).ownsRow 0 e sz z m ys := fun {e z m sz ys} he hz => own_move hz (fun k hk => Below.heap_setCell _ _ _ _ (own_apart hz h1 he hk))
  exact ⟨⟨h0, v, sl, (blk_set h1 0 _).trans rfl, h2, ap (by decide) h3, h4, fun j x u hx hu => ⟨ap (by decide) (h5 j x u hx hu).1, (h5 j x u hx hu).2⟩⟩, blk_frozen h1 0⟩
theorem RefF.push {w : World} {F : Nat → Prop} {g : Nat} {next : Int} {l : List (Int × GO)} (h : RefF w F g next l) (hl : l.length ≤ bound) (id kind : Int) :
    ∃ A1 c1 A7 c7 w7, w.cell? ⟨g, 1, none⟩ = some (.slice A1 l.length c1) ∧
      (Builtin.append_ #[102, 102] 102 #[.slice A1 l.length c1, .slice (some ⟨w.heap.size, 0, none⟩) 1 1]).run Tryz.prog (w.alloc (.cells #[.int .i64 id, .int .i64 kind, .slice none 0 0, .int .i64 0] 106 (0, 0))) = .ok (.slice A7 (l.length + 1) c7) w7 ∧
      RefF (w7.setCell ⟨g, 1, none⟩ (.slice A7 (l.length + 1) c7)) (fun k => F k ∨ (w.heap.size ≤ k ∧ k < w7.heap.size)) g next (l ++ [(id, newO kind)]) ∧ SameOn (fun k => ¬ F k) w w7 ∧ w7.frozen? ⟨g, 1, none⟩ = false ∧ w7.cell? ⟨g, 1, none⟩ = some (.slice A1 l.length c1) := by
  obtain ⟨i0, hi0, hz0, hz1, hz2⟩ := info_parts (P := Tryz.prog) (e := 106) (z := .agg #[.int .i64 0, .int .i64 0, .slice none 0 0, .int .i64 0]) (size := 4) (bytes := 48) (by kernel_rfl)
  have hb1 := below_alloc (Below.refl w.heap.size w) (.cells #[.int .i64 id, .int .i64 kind, .slice none 0 0, .int .i64 0] 106 (0, 0))
  obtain ⟨h0, v, sl, h1, h2, h3, h4, h5⟩ := h.below hb1
  obtain ⟨A1, c1, rfl⟩ := own_sl4 h3
  have hnew : (w.alloc (.cells #[.int .i64 id, .int .i64 kind, .slice none 0 0, .int .i64 0] 106 (0, 0))).ownsRow w.heap.size 106 4 (.slice (some ⟨w.heap.size, 0, none⟩) 1 1) 1 [.int .i64 id, .int .i64 kind, .slice none 0 0, .int .i64 0] := ⟨rfl, .inr ⟨_, 1, _, rfl, Nat.le_refl _, World.alloc_heap_new _ _, Nat.le_refl _, by decide, rfl, rfl⟩⟩
  obtain ⟨v7, w7, hr7, ho7, hg7, -, hd⟩ := run_append_own_at (P := Tryz.prog) _ 0 102 102 106 i0 (.agg #[.int .i64 0, .int .i64 0, .slice none 0 0, .int .i64 0]) 4 48 Tryz.underlying102 hi0 hz0 hz1 hz2 rfl (by decide) (.slice A1 l.length c1) l.length _ h3 ⟨w.heap.size, 0, none⟩ 1 1 [.int .i64 id, .int .i64 kind, .slice none 0 0, .int .i64 0] rfl (hnew.cells (g := w.heap.size) rfl) (by simp [Value.oneCell']) (by unfold bound at hl; unfold maxLen; omega) (by unfold bound at hl; omega) (Nat.zero_le _)
  obtain ⟨A7, c7, rfl⟩ := own_sl4 ho7
  have hgl := h.lt
  have hgne : some g ≠ (Value.slice A1 l.length c1).ownBlock := fun e => own_apart h3 h1 (by decide) e.symm rfl
  have hw7g := (hg7.block g (blk_lt h1) hgne).trans h1
  have hF7 : ∀ k, (Value.slice A7 (l.length + 1) c7).ownBlock = some k → F k ∨ (w.heap.size ≤ k ∧ k < w7.heap.size) := fun k hk => by
    rcases hd with e | e
    · exact .inl (h4 k (by rw [← e]; exact hk))
    · rw [e] at hk
      have : k = (w.alloc (.cells #[.int .i64 id, .int .i64 kind, .slice none 0 0, .int .i64 0] 106 (0, 0))).heap.size := (Option.some.inj hk).symm
      exact .inr ⟨by rw [this]; exact hb1.size, (ho7.lt k (e.trans hk)).2⟩
  have keep : ∀ {z : Value} {m : Nat} {ys : List Value}, (w.alloc (.cells #[.int .i64 id, .int .i64 kind, .slice none 0 0, .int .i64 0] 106 (0, 0))).ownsRow 0 42 3 z m ys → (w7.setCell ⟨g, 1, none⟩ (.slice A7 (l.length + 1) c7)).ownsRow 0 42 3 z m ys := fun {z m ys} hz => own_move hz (fun k hk => by
    have hne : k ≠ g := own_apart hz h1 (by decide) hk
    exact (Below.heap_setCell _ _ _ _ hne).trans (hg7.block k (hz.lt k hk).2 (fun e => rows_apart hz h3 (by decide) hk e.symm)))
  have hsame : SameOn (fun k => ¬ F k) w w7 := (SameOn.of_below hb1).trans ⟨hg7.size, fun k hk hl => hg7.block k hl (fun e => hk (h4 k e.symm)), hg7.os, hg7.tape, hg7.output⟩
  refine ⟨A1, c1, A7, c7, w7, ((hb1.cell (p := ⟨g, 1, none⟩) hgl).symm.trans ((blk_cell h1 1).trans rfl)), hr7, ⟨.inl h0, .slice A7 (l.length + 1) c7, sl ++ [.slice none 0 0], (blk_set hw7g 1 _).trans rfl, by simp [h2], ?_, hF7, fun j x u hx hu => ?_⟩, hsame, blk_frozen hw7g 1, (blk_cell hw7g 1).trans rfl⟩
  · rw [List.length_append, objC_snoc l sl (id, newO kind) (.slice none 0 0) h2]
    exact own_move ho7 (fun k hk => Below.heap_setCell _ _ _ _ (own_apart ho7 hw7g (by decide) hk))
  · by_cases hj : j < l.length
    · rw [List.getElem?_append_left hj] at hx
      rw [List.getElem?_append_left (by omega)] at hu
      exact ⟨keep (h5 j x u hx hu).1, fun k hk => .inl ((h5 j x u hx hu).2 k hk)⟩
    · have hj2 : j = l.length := by
        have := (List.getElem?_eq_some_iff.1 hx).1
        simp at this
        omega
      subst hj2
      rw [List.getElem?_append_right (Nat.le_refl _)] at hx
      rw [List.getElem?_append_right (by omega)] at hu
      simp at hx
      rw [h2] at hu
      simp at hu
      subst hx
      subst hu
      exact ⟨World.ownsRow_nil _ _ _ _, fun k hk => by cases hk⟩
theorem TurnR.comp {w0 w w1 w2 : World} {g : Nat} {F F1 : Nat → Prop} {next : Int} {l : List (Int × GO)} (h : TurnR w0 w1 g F1 next l w2) (h2 : ∀ k, F k → F1 k) (h3 : ∀ k, F1 k → F k ∨ w.heap.size ≤ k) (h4 : SameOn (fun k => ¬ F k) w w1) : TurnR w0 w g F next l w2 := by
  obtain ⟨F2, g1, g2, g3, g4⟩ := h
  refine ⟨F2, g1, fun k hk => g2 k (h2 k hk), fun k hk => ?_, ⟨Nat.le_trans h4.size g4.size, fun k hk hl => ?_, g4.os.trans h4.os, g4.tape.trans h4.tape, g4.output.trans h4.output⟩⟩
  · rcases g3 k hk with h | h
    · exact h3 k h
    · exact .inr (Nat.le_trans h4.size h)
  · refine (g4.same k (fun hf => ?_) (Nat.lt_of_lt_of_le hl h4.size)).trans (h4.same k hk hl)
    rcases h3 k hf with h | h
    · exact hk h
    · omega
set_option maxHeartbeats 16000000 in
set_option maxRecDepth 100000 in
theorem refAdd_calls (w0 w : World) (g : Nat) (F : Nat → Prop) (G : GS) (hM : MineR w0 w g F G.next G.objs) (hok : Ok G) (hn : G.next < 1000000000) (p : ByteArray) (kind id e : Int) (G2 : GS) (h : addG G p kind = some (id, e, G2)) :
    Calls Tryz.prog 64 #[.pointer (some ⟨g, 0, none⟩), .string p, .int .i64 kind] w fun ev w' => ev = .returned (.tuple #[.int .i64 id, .int .i64 e]) ∧ TurnR w0 w g F G2.next G2.objs w' := by
  obtain ⟨A, c, hr⟩ := hM.1.R
  have HR := Aside0.mk hr
  have HM := Aside0.mk hM
  have HOK := Aside0.mk hok
  have HNX := Aside0.mk hn
  have hadd := h
  unfold addG at h
  obtain ⟨⟨sid, snm, se⟩, hs, hso, hroom⟩ := slot_ok hok p
  simp only at hso hroom
  rw [hroom] at h
  have HS := Aside0.mk hs
  have HSO := Aside0.mk hso
  have HADD := Aside0.mk hadd
  have c1 := hr.c1
  clear hr hM hok hs hso hroom hn hadd
  by_cases hk1 : kind = 1 ∨ kind = 2
  rotate_left
  · rw [if_neg hk1] at h
    obtain ⟨rfl, rfl, rfl⟩ : (0 : Int) = id ∧ (2 : Int) = e ∧ G = G2 := by simpa using h
    have n1 : (kind != 1) = true := by simp; omega
    have n2 : (kind != 2) = true := by simp; omega
    clear h hk1
    go_enter Tryz.func64, Tryz.ntmps64
    go_wp2
    go_ret2
    exact ⟨rfl, turnR_same HM.out (Below.refl _ _)⟩
  rw [if_pos hk1] at h
  have hkk : (kind != 1) = false ∧ (kind != 2) = (kind != 2) ∨ (kind != 1) = true ∧ (kind != 2) = false := by
    rcases hk1 with rfl | rfl
    · exact .inl ⟨rfl, rfl⟩
    · exact .inr ⟨rfl, rfl⟩
  have HKK := Aside0.mk hk1
  have hcnt := links_full HOK.out
  have hle := HOK.out.links
  have hsz := HOK.out.size
  have HLE : Aside0 (sumO lenO G.objs ≤ 1000000000) := ⟨by omega⟩
  obtain ⟨cv, hcv⟩ : ∃ cv, cv = ((sumO lenO G.objs : Nat) : Int) := ⟨_, rfl⟩
  have HCV := Aside0.mk hcv
  have HSZ := Aside0.mk hsz
  have HCC : Aside0 (cv = G.count ∧ cv ≤ 256) := ⟨by omega, by omega⟩
  clear hk1 hcnt hle hsz hcv
  simp only at h
  rcases hkk with ⟨n1, n2⟩ | ⟨n1, n2⟩
  all_goals
    by_cases hse : se = 0
    rotate_left
    · simp only [if_neg hse, hse, false_and, if_false] at h
      obtain ⟨rfl, rfl, rfl⟩ : (0 : Int) = id ∧ se = e ∧ G = G2 := by simpa using h
      have n3 : (se != 0) = true := by simpa using hse
      clear h hse
      go_enter Tryz.func64, Tryz.ntmps64
      go_wp2_with (go_at_call 87; refine (refSlot_calls w g G A c HR.out HOK.out p _ _ _ HS.out).mono ?_; rintro e_ w3 ⟨rfl, hw3⟩; have HW3 := Aside0.mk hw3; clear hw3)
      go_ret2
      exact ⟨rfl, turnR_same HM.out HW3.out⟩
    subst hse
    obtain ⟨o, ho, hk, hg, hln⟩ := HSO.out rfl
    simp only [if_true] at h
    by_cases hlen : G.objs.length = 128
    · have he7 : (if (if G.count = 256 then (7 : Int) else 0) = 0 ∧ G.objs.length = 128 then (7 : Int) else (if G.count = 256 then 7 else 0)) = 7 := by
        by_cases hc : G.count = 256
        · rw [if_pos hc]; rfl
        · rw [if_neg hc, if_pos ⟨rfl, hlen⟩]
      rw [he7, if_neg (by decide)] at h
      obtain ⟨rfl, rfl, rfl⟩ : (0 : Int) = id ∧ (7 : Int) = e ∧ G = G2 := by simpa using h
      have n3 : decide (128 ≤ (G.objs.length : Int)) = true := decide_eq_true (by omega)
      clear h he7 hlen ho hk hg hln
      go_enter Tryz.func64, Tryz.ntmps64
      go_upto_region 6 with (go_at_call 87; refine (refSlot_calls w g G A c HR.out HOK.out p _ _ _ HS.out).mono ?_; rintro e_ w3 ⟨rfl, hw3⟩; have HW3 := Aside0.mk hw3; clear hw3)
      have c3 := (HR.out.below HW3.out).c1
      go_wp2
      go_ret2
      exact ⟨rfl, turnR_same HM.out HW3.out⟩
    have n4 : decide (128 ≤ (G.objs.length : Int)) = false := decide_eq_false (by have := HSZ.out; omega)
    by_cases hc : G.count = 256
    · have he7 : (if (7 : Int) = 0 ∧ G.objs.length = 128 then (7 : Int) else 7) = 7 := by split <;> rfl
      rw [if_pos hc, he7, if_neg (by decide)] at h
      obtain ⟨rfl, rfl, rfl⟩ : (0 : Int) = id ∧ (7 : Int) = e ∧ G = G2 := by simpa using h
      have n3 : decide (256 ≤ cv) = true := decide_eq_true (by have := HCC.out; omega)
      clear h hc hlen ho hk hg hln he7
      go_enter Tryz.func64, Tryz.ntmps64
      go_upto_region 6 with (go_at_call 87; refine (refSlot_calls w g G A c HR.out HOK.out p _ _ _ HS.out).mono ?_; rintro e_ w3 ⟨rfl, hw3⟩; have HW3 := Aside0.mk hw3; clear hw3)
      have c3 := (HR.out.below HW3.out).c1
      go_wp2_with (go_at_call 54; refine (refLinks_calls w3 g _ A c G.objs (HR.out.below HW3.out) (ok_few HOK.out) HLE.out).mono ?_; rw [← HCV.out]; rintro e_ w4 ⟨rfl, hw4⟩; obtain rfl := hw4.symm)
      go_ret2
      exact ⟨rfl, turnR_same HM.out HW3.out⟩
    have n3 : decide (256 ≤ cv) = false := decide_eq_false (by have := HCC.out; omega)
    obtain ⟨id', e', G2', hadd', hcase⟩ := add_ok HOK.out (by have := HNX.out; omega) p kind
    rw [HADD.out] at hadd'
    have he00 : (if (0 : Int) = 0 ∧ G.objs.length = 128 then (7 : Int) else 0) = 0 := if_neg (fun a => hlen a.2)
    rw [if_neg hc, he00, if_pos rfl] at h
    obtain ⟨rfl, rfl, rfl⟩ : id = id' ∧ e = e' ∧ G2 = G2' := by simpa using hadd'
    have he0 : e = 0 := by
      split at h
      · cases h
      · split at h
        · cases h
        · simp at h; exact h.2.1.symm
    rcases hcase with ⟨h9, -, -⟩ | ⟨-, hid, -, -, gid, nm, o', hroom', ho', -, hln', -, hG2, hNok, -⟩
    · exact absurd he0 h9
    subst he0
    subst hid
    subst hG2
    obtain ⟨rfl, rfl⟩ : sid = gid ∧ snm = nm := by
      have h1 := slot_ok HOK.out p
      obtain ⟨r1, s1, -, s3⟩ := h1
      rw [HS.out] at s1
      cases s1
      simp only [if_true] at s3
      rw [s3] at hroom'
      simpa using (Option.some.inj hroom' |> fun e => And.intro (congrArg (·.1) e) (congrArg (·.2.1) e))
    obtain rfl := asc_uniq HOK.out.asc ho ho'
    obtain ⟨i, hi⟩ := List.mem_iff_getElem?.1 ho
    have hfr := fresh HOK.out
    have HPE : Aside0 ((newObj G kind).objs = G.objs ++ [(G.next, newO kind)]) := ⟨putO_end (fun y hy => (HOK.out.ids y hy).2)⟩
    have HI : Aside0 ((newObj G kind).objs[i]? = some (sid, o)) := ⟨by rw [HPE.out, List.getElem?_append_left (List.getElem?_eq_some_iff.1 hi).1]; exact hi⟩
    have HLN := Aside0.mk hln
    have HGD := Aside0.mk (good_small hg)
    have HNS := Aside0.mk (names_small HOK.out ho)
    have HXB := Aside0.mk (ok_short HOK.out _ ho)
    have HNOK := Aside0.mk hNok
    have w1_ : wrap64 (G.next + 1) = G.next + 1 := wrap_ok9 _ (by have := (HOK.out.ids _ ho); omega) (by have := HNX.out; omega)
    clear h hc hlen ho hk hg hln hi hNok hln' ho' hroom' hfr hadd' he00
    go_enter Tryz.func64, Tryz.ntmps64
    go_upto_region 6 with (go_at_call 87; refine (refSlot_calls w g G A c HR.out HOK.out p _ _ _ HS.out).mono ?_; rintro e_ w3 ⟨rfl, hw3⟩; have HW3 := Aside0.mk hw3; clear hw3)
    have HM3 := Aside0.mk (HM.out.step HW3.out)
    obtain ⟨A', c', hr3⟩ := HM3.out.1.R
    have c3 := (HR.out.below HW3.out).c1
    have c0 := HM3.out.1.c0
    obtain ⟨hRN, f0⟩ := HM3.out.1.renumber (G.next + 1)
    have HRN := Aside0.mk hRN
    clear hRN
    go_upto_region 10 with (go_at_call 54; refine (refLinks_calls w3 g _ A c G.objs (HR.out.below HW3.out) (ok_few HOK.out) HLE.out).mono ?_; rw [← HCV.out]; rintro e_ w4 ⟨rfl, hw4⟩; obtain rfl := hw4.symm)
    obtain ⟨W9, hW9⟩ : ∃ W9, W9 = w3.setCell ⟨g, 0, none⟩ (.int .i64 (G.next + 1)) := ⟨_, rfl⟩
    rw [← hW9]
    have hRN9 : RefF W9 F g (G.next + 1) G.objs := by rw [hW9]; exact HRN.out
    have hs9 : SameOn (fun k => ¬ F k) w3 W9 := by rw [hW9]; exact SameOn.setCell _ _ _ (fun hn => hn HM3.out.1.1)
    obtain ⟨A1, c1', A7, c7, w7, hc1, hr7, hR7, hs7, f7, d7⟩ := hRN9.push (ok_few HOK.out) G.next kind
    rw [← HPE.out] at hR7
    have HR7 := Aside0.mk hr7
    have HR7F := Aside0.mk hR7
    have HS7 := Aside0.mk (hs9.trans hs7)
    have HZ9 := Aside0.mk hs9.size
    clear c3 c0 f0 hW9 hRN9 hs9 hr7 hR7 hs7 hr3 HRN n1 n2 n3 n4 c1
    go_upto_region 11 with (at_builtin; refine wpList_append_run rfl _ _ 102 rfl rfl rfl HR7.out ?_)
    obtain ⟨W10, hW10⟩ : ∃ W10, W10 = w7.setCell ⟨g, 1, none⟩ (.slice A7 (G.objs.length + 1) c7) := ⟨_, rfl⟩
    rw [← hW10]
    have hT : TurnR w0 w3 g F (G.next + 1) (newObj G kind).objs W10 := turnR_of HM3.out (HS7.out.trans (by rw [hW10]; exact SameOn.setCell _ _ _ (fun hn => hn HM3.out.1.1))) (by
      rw [hW10]
      exact HR7F.out.mono (fun k hk => hk.imp_right (fun a => ⟨Nat.le_trans HZ9.out a.1, by simpa using a.2⟩)))
    obtain ⟨F1, hM1, i1, i2, i3⟩ := hT
    have HM1 := Aside0.mk hM1
    have HI1 := Aside0.mk i1
    have HI2 := Aside0.mk i2
    have HI3 := Aside0.mk i3
    clear hM1 i1 i2 i3 hW10 f7 d7 hc1
    go_wp2_with (go_at_call 88; refine (refPut_calls w0 W10 g F1 (G.next + 1) (newObj G kind).objs HM1.out HNOK.out.asc (ok_few HNOK.out) HI.out HXB.out sid rfl (snm, G.next, ⟨#[]⟩) HLN.out HGD.out HNS.out).mono ?_; rintro e_ w5 ⟨rfl, hw5⟩; have HW5 := Aside0.mk hw5; clear hw5)
    go_ret2
    exact ⟨rfl, ((HW5.out.comp HI1.out HI2.out HI3.out).from HW3.out).shape (shape_put HNOK.out.asc HI.out (snm, G.next, ⟨#[]⟩))⟩
end
end Go.Proofs.YthifdofdoeaemaaGreatDoor.Wk
end
section
namespace Go.Proofs.YthifdofdoeaemaaGreatDoor.Wk
open Go.RowKit Go.Proofs.YthifdofdoeaemaaGreatDoorW.PrintWords Go.Proofs.YthifdofdoeaemaaGreatDoorW.PrintLast Go.Proofs.YthifdofdoeaemaaGreatDoorW.PrintMore
attribute [local go_sem] max2_int min2_int max_two min_two max_three min_three max_four min_four
set_option linter.unusedVariables false
set_option linter.unusedSimpArgs false
section
open Go.RowKit Go.Lib Go.Maps Go.Proofs.YthifdofdoeaemaaGreatDoorQ
attribute [local go_sem] Oper.semAt_some
theorem delK_at {l : List Lk} (hn : Names l) {q : Nat} {k : Lk} (hq : l[q]? = some k) : delK k.1 l = l.take q ++ l.drop (q + 1) := by
  obtain ⟨hi, he⟩ := List.getElem?_eq_some_iff.1 hq
  have hp := List.pairwise_iff_getElem.1 hn
  unfold delK
  conv => lhs; rw [← List.take_append_drop q l, List.filter_append, List.drop_eq_getElem_cons hi, List.filter_cons]
  rw [he]
  simp only [decide_true, Bool.not_true, if_false, Bool.false_eq_true]
  congr 1
  · refine List.filter_eq_self.2 (fun y hy => ?_)
    obtain ⟨n, hn2⟩ := List.mem_iff_getElem?.1 hy
    rw [List.getElem?_take] at hn2
    split at hn2
    · rename_i hni
      obtain ⟨h1, h2⟩ := List.getElem?_eq_some_iff.1 hn2
      have := hp n q h1 hi hni
      rw [h2, he] at this
      have hne : ¬ y.1.data.toList = k.1.data.toList := fun e => by rw [e, before_irrefl] at this; cases this
      simpa using hne
    · cases hn2
  · refine List.filter_eq_self.2 (fun y hy => ?_)
    obtain ⟨n, hn2⟩ := List.mem_iff_getElem?.1 hy
    rw [List.getElem?_drop] at hn2
    obtain ⟨h1, h2⟩ := List.getElem?_eq_some_iff.1 hn2
    have := hp q (q + 1 + n) hi h1 (by omega)
    rw [h2, he] at this
    have hne : ¬ y.1.data.toList = k.1.data.toList := fun e => by rw [e, before_irrefl] at this; cases this
    simpa using hne
theorem shape_cut {G : GS} (ha : Asc G.objs) {i : Nat} {id : Int} {o : GO} (hx : G.objs[i]? = some (id, o)) (x : Lk) : shape (G.objs.set i (id, { o with links := delK x.1 o.links })) = shape (cut2 G id x).objs := by
  rw [cut2_objs, shape_leads _ _ (fun n => n - 1)]
  have := setO_at ha hx (fun o => { o with links := delK x.1 o.links })
  simp only at this
  rw [this]
theorem cut_rest {G : GS} (h : Ok G) (hr : Rest G) {id : Int} {k : Lk} (h0 : k.2.1 = 0) : Rest (cut2 G id k) := fun y hy => by
  obtain ⟨z, hz, e1, -, e3, -, e5⟩ := cut2_mem hy
  have hz0 := no_zero h hz
  rw [e1, e3, e5, if_neg (by rw [h0]; exact hz0)]
  exact hr z hz
theorem held_rest {G G2 : GS} {id : Int} {c : List Int} (h : Ok G) (hr : Rest G) (hok : Ok (heldG G id (fun o => { o with held := o.held - 1 }))) (hst : Step id (heldG G id (fun o => { o with held := o.held - 1 })) c G2) (hcl : Clean id (heldG G id (fun o => { o with held := o.held - 1 })) G2) : Rest G2 := fun y hy => by
  obtain ⟨yi, q⟩ := y
  simp only
  have hql := hst.ok.lead hy
  have hqh := hst.ok.held _ hy
  simp only at hql hqh
  by_cases h1 : yi = 1
  · exact .inl h1
  by_cases h2 : 0 < q.leads
  · exact .inr (.inl h2)
  by_cases h3 : 0 < q.held
  · exact .inr (.inr h3)
  exfalso
  by_cases ht : yi = id
  · subst ht
    exact (hcl q hy).2 ⟨h1, by omega, by omega⟩
  · obtain ⟨p, hp, e⟩ := hst.rest yi q hy (by omega) (by omega) h1 ht
    obtain ⟨p', hp', e1, e2, e3⟩ := hst.back yi q hy
    obtain rfl := asc_uniq hok.asc hp hp'
    obtain ⟨z, hz, f0, f1, -, f4, f5⟩ := turn_mem turn_down hp
    have := hr _ hz
    simp only at f0 f4 f5
    rw [if_neg (by rw [← f0]; exact ht)] at f5
    omega
def GoneAt (w0 w : World) (g : Nat) (F : Nat → Prop) (r : List Int) (e : Int) (G2 : GS) (ev : Ending) (w' : World) : Prop :=
  ∃ v, ev = .returned (.tuple #[v, .int .i64 e]) ∧ w'.ownsRow w.heap.size 3 1 v r.length (r.map (.int .i64)) ∧ TurnR w0 w g F G2.next G2.objs w'
theorem gone_nil {w0 w w' : World} {g : Nat} {F : Nat → Prop} {e : Int} {G : GS} (hM : MineR w0 w g F G.next G.objs) (hb : Below w.heap.size w w') : GoneAt w0 w g F [] e G (.returned (.tuple #[.slice none 0 0, .int .i64 e])) w' :=
  ⟨_, rfl, World.ownsRow_nil _ _ _ _, turnR_same hM hb⟩
set_option maxHeartbeats 16000000 in
set_option maxRecDepth 100000 in
theorem refFree_calls {mm : Nat} (w0 w : World) (g : Nat) (F : Nat → Prop) (G : GS) (hM : MineR w0 w g F G.next G.objs) (hL : Live mm G) (hm : mm ≤ 1000000) (id : Int) (r : List Int) (e : Int) (G2 : GS) (h : freeG 300 G id = some (r, e, G2)) :
    Calls Tryz.prog 72 #[.pointer (some ⟨g, 0, none⟩), .int .i64 id] w fun ev w' => GoneAt w0 w g F r e G2 ev w' := by
  obtain ⟨A, c, hr⟩ := hM.1.R
  obtain ⟨r', e', G2', h', -, hcase⟩ := live_free hL hm id
  rw [h] at h'
  obtain ⟨rfl, rfl, rfl⟩ : r = r' ∧ e = e' ∧ G2 = G2' := by simpa using h'
  have HR := Aside0.mk hr
  have HM := Aside0.mk hM
  have HOK := Aside0.mk hL.ok
  have HLV := Aside0.mk hL
  have HMM := Aside0.mk hm
  clear hr hM h h' hL hm
  rcases hcase with ⟨ho, rfl, rfl, rfl⟩ | ⟨o, ho, hz, rfl, rfl, rfl⟩ | ⟨o, cc, ho, hz, rfl, rfl, hok2, hac2, hst, hcl⟩
  · have HN : Aside0 (∀ x ∈ G2.objs, x.1 ≠ id) := ⟨fun x hx => at_none ho hx⟩
    clear ho
    go_enter Tryz.func72, Tryz.ntmps72
    go_wp2_with (go_at_call 56; refine (refAt_none _ g _ A c G2.objs HR.out (ok_few HOK.out) id HN.out).mono ?_; rintro e_ w2 ⟨rfl, h2⟩; obtain rfl := h2.symm)
    go_ret2
    exact gone_nil HM.out (Below.refl _ _)
  · obtain ⟨j, hj⟩ := List.mem_iff_getElem?.1 ho
    obtain ⟨jv, hjv⟩ : ∃ jv, jv = (j : Int) := ⟨_, rfl⟩
    have hjl := (List.getElem?_eq_some_iff.1 hj).1
    have j0 : decide (jv < 0) = false := decide_eq_false (by omega)
    have j1 : (jv < (G2.objs.length : Int)) = True := eq_true (by omega)
    have j2 : ((0 : Int) ≤ jv) = True := eq_true (by omega)
    have j3 : jv.toNat = j := by omega
    obtain ⟨b, c', Ax, cx, -, c1, hFb, hbl, -, -, -, -, x3, -, -, hfz⟩ := HM.out.1.at hj
    have hcc := HR.out.c1
    rw [c1] at hcc
    obtain ⟨rfl, rfl⟩ : some ⟨b, 0, none⟩ = A ∧ c' = c := by simpa using hcc
    have z1 : (o.held == 0) = true := by simpa using hz
    have HJ := Aside0.mk hj
    have HJV := Aside0.mk hjv
    clear hj hjv hjl hfz hbl hFb hcc ho hz
    go_enter Tryz.func72, Tryz.ntmps72
    go_wp2_with (go_at_call 56; refine (refAt_at _ g _ _ c' G2.objs HR.out HOK.out.asc (ok_few HOK.out) HJ.out id jv rfl HJV.out).mono ?_; rintro e_ w2 ⟨rfl, h2⟩; obtain rfl := h2.symm)
    go_ret2
    exact gone_nil HM.out (Below.refl _ _)
  · obtain ⟨j, hj⟩ := List.mem_iff_getElem?.1 ho
    obtain ⟨jv, hjv⟩ : ∃ jv, jv = (j : Int) := ⟨_, rfl⟩
    have hjl := (List.getElem?_eq_some_iff.1 hj).1
    have j0 : decide (jv < 0) = false := decide_eq_false (by omega)
    have j1 : (jv < (G.objs.length : Int)) = True := eq_true (by omega)
    have j2 : ((0 : Int) ≤ jv) = True := eq_true (by omega)
    have j3 : jv.toNat = j := by omega
    obtain ⟨b, c', Ax, cx, -, c1, hFb, hbl, -, -, -, -, x3, -, -, hfz⟩ := HM.out.1.at hj
    have f3 := hfz (j * 4 + 3)
    have hcc := HR.out.c1
    rw [c1] at hcc
    obtain ⟨rfl, rfl⟩ : some ⟨b, 0, none⟩ = A ∧ c' = c := by simpa using hcc
    have z1 : (o.held == 0) = false := by simpa using hz
    have hh0 := HOK.out.held _ ho
    have hh1 := HLV.out.few _ ho
    simp only at hh0 hh1
    have w1_ : wrap64 (o.held - 1) = o.held - 1 := wrap_ok9 _ (by omega) (by have := HMM.out; omega)
    have HJ := Aside0.mk hj
    have HJV := Aside0.mk hjv
    obtain ⟨W2, hW2⟩ : ∃ W2, W2 = w.setCell ⟨b, j * 4 + 3, none⟩ (.int .i64 (o.held - 1)) := ⟨_, rfl⟩
    have hR := HM.out.1.held hj (o.held - 1) c1
    have hset := setO_at HOK.out.asc hj (fun o => { o with held := o.held - 1 })
    simp only at hset
    rw [← hset, ← hW2] at hR
    have hT : TurnR w0 w g F G.next (heldG G id (fun o => { o with held := o.held - 1 })).objs W2 := turnR_of HM.out (by rw [hW2]; exact SameOn.setCell _ _ _ (fun hn => hn hFb)) (hR.mono (fun k hk => .inl hk))
    obtain ⟨F1, hM1, i1, i2, i3⟩ := hT
    have HM1 := Aside0.mk hM1
    have HI1 := Aside0.mk i1
    have HI2 := Aside0.mk i2
    have HI3 := Aside0.mk i3
    have HOK2 := Aside0.mk hok2
    have HAC2 := Aside0.mk hac2
    have HST := Aside0.mk hst
    have HCL := Aside0.mk hcl
    have HW2 := Aside0.mk hW2
    clear hj hjv hjl hfz hbl hFb hcc ho hz hh0 hh1 hR hset hM1 i1 i2 i3 hok2 hac2 hst hcl hW2
    go_enter Tryz.func72, Tryz.ntmps72
    go_upto_region 7 with (go_at_call 56; refine (refAt_at _ g _ _ c' G.objs HR.out HOK.out.asc (ok_few HOK.out) HJ.out id jv rfl HJV.out).mono ?_; rintro e_ w2 ⟨rfl, h2⟩; obtain rfl := h2.symm)
    rw [← HW2.out]
    clear c1 x3 f3 j0 j1 j2 j3 w1_ z1
    go_wp2_with (go_at_call 91; refine (refSwept_calls w0 W2 g F1 G.next (heldG G id (fun o => { o with held := o.held - 1 })).objs HM1.out HOK2.out.asc (by have := HOK2.out.size; omega) (by have := HOK2.out.links; omega)).mono ?_; rintro e_ w5 ⟨v, out, s, m, rfl, hrow, hrem, hdone, hperm, hsort, hturn⟩; have HROW := Aside0.mk hrow; have HREM := Aside0.mk hrem; have HDONE := Aside0.mk hdone; have HPERM := Aside0.mk hperm; have HSORT := Aside0.mk hsort; have HTURN := Aside0.mk hturn; clear hrow hrem hdone hperm hsort hturn)
    go_ret2
    obtain ⟨rfl, hsh⟩ := swept_same HOK2.out HAC2.out HST.out HCL.out (held_rest HOK.out HLV.out.rest HOK2.out HST.out HCL.out) HREM.out HDONE.out HPERM.out HSORT.out
    refine ⟨v, rfl, HROW.out.mono HI3.out.size, ?_⟩
    have hnx : G2.next = G.next := HST.out.next
    rw [hnx]
    exact (HTURN.out.comp HI1.out HI2.out HI3.out).shape hsh
end
end Go.Proofs.YthifdofdoeaemaaGreatDoor.Wk
end
section
namespace Go.Proofs.YthifdofdoeaemaaGreatDoor.Wk
open Go.RowKit Go.Proofs.YthifdofdoeaemaaGreatDoorW.PrintWords Go.Proofs.YthifdofdoeaemaaGreatDoorW.PrintLast Go.Proofs.YthifdofdoeaemaaGreatDoorW.PrintMore
attribute [local go_sem] max2_int min2_int max_two min_two max_three min_three max_four min_four
set_option linter.unusedVariables false
set_option linter.unusedSimpArgs false
section
open Go.RowKit Go.Lib Go.Maps Go.Proofs.YthifdofdoeaemaaGreatDoorQ
attribute [local go_sem] Oper.semAt_some
set_option maxHeartbeats 16000000 in
set_option maxRecDepth 100000 in
theorem refUnlink_calls {mm : Nat} (w0 w : World) (g : Nat) (F : Nat → Prop) (G : GS) (hM : MineR w0 w g F G.next G.objs) (hL : Live mm G) (p : ByteArray) (r : List Int) (e : Int) (G2 : GS) (h : unlinkG 300 G p = some (r, e, G2)) :
    Calls Tryz.prog 67 #[.pointer (some ⟨g, 0, none⟩), .string p] w fun ev w' => GoneAt w0 w g F r e G2 ev w' := by
  obtain ⟨A, c, hr⟩ := hM.1.R
  have HR := Aside0.mk hr
  have HM := Aside0.mk hM
  have HOK := Aside0.mk hL.ok
  have HLV := Aside0.mk hL
  have HH := Aside0.mk h
  obtain ⟨⟨pid, pn, pe⟩, hp, hpo⟩ := place_ok hL.ok p 2 (by decide)
  simp only at hpo
  have HP := Aside0.mk hp
  unfold unlinkG at h
  rw [hp] at h
  simp only at h
  clear hr hM hL hp
  by_cases hpe : pe = 0
  rotate_left
  · rw [if_neg hpe] at h
    obtain ⟨rfl, rfl, rfl⟩ : ([] : List Int) = r ∧ pe = e ∧ G = G2 := by simpa using h
    have n1 : (pe != 0) = true := by simpa using hpe
    clear h hpe hpo
    go_enter Tryz.func67, Tryz.ntmps67
    go_wp2_with (go_at_call 89; refine (refPlace_calls _ g G A c HR.out HOK.out p 2 _ _ _ HP.out).mono ?_; rintro e_ w2 ⟨rfl, hw2⟩; have HW2 := Aside0.mk hw2; clear hw2)
    go_ret2
    exact gone_nil HM.out HW2.out
  subst hpe
  rw [if_pos rfl] at h
  obtain ⟨o, ho, hkd, hgn⟩ := hpo rfl
  rw [HOK.out.obj ho] at h
  simp only at h
  obtain ⟨j, hj⟩ := List.mem_iff_getElem?.1 ho
  have HJ := Aside0.mk hj
  have HXB := Aside0.mk (ok_short HOK.out _ ho)
  have HNM := Aside0.mk (HOK.out.names _ ho)
  cases hl : lnk o.links pn with
  | none =>
    simp only [hl, Option.isSome_none, if_false, Bool.false_eq_true] at h
    obtain ⟨rfl, rfl, rfl⟩ : ([] : List Int) = r ∧ (10 : Int) = e ∧ G = G2 := by simpa using h
    have HL := Aside0.mk hl
    clear h hl ho hj hkd hgn hpo
    go_enter Tryz.func67, Tryz.ntmps67
    go_wp2_with (first
      | (go_at_call 89; refine (refPlace_calls _ g G A c HR.out HOK.out p 2 _ _ _ HP.out).mono ?_; rintro e_ w2 ⟨rfl, hw2⟩; have HW2 := Aside0.mk hw2; clear hw2)
      | (go_at_call 90; refine (refLink_calls w2 g G.next A c G.objs (HR.out.below HW2.out) HOK.out.asc (ok_few HOK.out) HJ.out HXB.out pid rfl pn).mono ?_; rintro e_ w3 ⟨r3, hr3, rfl, m3, hw3⟩; have n3 : decide (r3 < 0) = true := (by rcases hr3 with ⟨q, k', -, e3, -⟩ | ⟨e3, -⟩; rw [HL.out] at e3; cases e3; exact decide_eq_true (by omega)); have HW3 := Aside0.mk (show Below w.heap.size w w3 by rw [hw3]; exact HW2.out.trans (below_dn3 HW2.out.size)); clear hr3 hw3))
    go_ret2
    exact gone_nil HM.out HW3.out
  | some k =>
    obtain ⟨r', e', G2', h', hcase⟩ := unlink_ok HOK.out 300 (by omega) p
    rw [HH.out] at h'
    obtain ⟨rfl, rfl, rfl⟩ : r = r' ∧ e = e' ∧ G2 = G2' := by simpa using h'
    have hkn := (lnk_mem hl).2
    simp only [hl, Option.isSome_some, if_true] at h
    have he0 : e = 0 := by
      split at h
      · cases h
      · split at h
        · simp at h; exact h.2.1.symm
        · cases h
    rcases hcase with ⟨h9, -, -⟩ | ⟨-, id', nm', o', k', cc, hp', ho', hk', hkn', hr', hsw⟩
    · exact absurd he0 h9
    obtain ⟨rfl, rfl⟩ : pid = id' ∧ pn = nm' := by
      rw [HP.out] at hp'
      simpa using hp'
    obtain rfl := asc_uniq HOK.out.asc ho ho'
    obtain rfl : k = k' := by
      have := lnk_of_mem HNM.out hk'
      rw [hkn', hl] at this
      exact Option.some.inj this
    subst he0
    subst hr'
    have HK' := Aside0.mk hk'
    have HL := Aside0.mk hl
    have HSW := Aside0.mk hsw
    have HKN := Aside0.mk hkn
    have HOO := Aside0.mk ho
    clear h h' hl hkn hp' ho' hk' hkn' hsw hkd hgn hpo
    obtain ⟨iv, hiv⟩ : ∃ iv, iv = (j : Int) := ⟨_, rfl⟩
    have HIV := Aside0.mk hiv
    have hjl := (List.getElem?_eq_some_iff.1 hj).1
    have q2 : (iv < (G.objs.length : Int)) = True := eq_true (by omega)
    have q3 : ((0 : Int) ≤ iv) = True := eq_true (by omega)
    have q4 : iv.toNat = j := by omega
    clear ho hj hiv hjl
    go_enter Tryz.func67, Tryz.ntmps67
    go_upto_region 5 with (first
      | (go_at_call 89; refine (refPlace_calls _ g G A c HR.out HOK.out p 2 _ _ _ HP.out).mono ?_; rintro e_ w2 ⟨rfl, hw2⟩; have HW2 := Aside0.mk hw2; clear hw2)
      | (go_at_call 90; refine (refLink_calls w2 g G.next A c G.objs (HR.out.below HW2.out) HOK.out.asc (ok_few HOK.out) HJ.out HXB.out pid rfl pn).mono ?_; rintro e_ w3 ⟨r3, hr3, rfl, m3, hw3⟩; have HR3 := Aside0.mk hr3; have HW3 := Aside0.mk (show Below w.heap.size w w3 by rw [hw3]; exact HW2.out.trans (below_dn3 HW2.out.size)); clear hr3 hw3))
    obtain ⟨q, hq, hrq⟩ : ∃ q : Nat, o.links[q]? = some k ∧ r3 = (q : Int) := by
      rcases HR3.out with ⟨q, k', h1, e3, h3⟩ | ⟨-, e3⟩
      · rw [HL.out] at e3
        exact ⟨q, by rw [h1]; exact e3.symm, h3⟩
      · rw [HL.out] at e3; cases e3
    have hql := (List.getElem?_eq_some_iff.1 hq).1
    have HM3 := Aside0.mk (HM.out.step HW3.out)
    obtain ⟨b, c', Ax, cx, -, c1, hFb, hbl, -, -, -, x2, -, hcx, hxr, hfz⟩ := HM3.out.1.at HJ.out
    have hcc := (HR.out.below HW3.out).c1
    rw [c1] at hcc
    obtain ⟨rfl, rfl⟩ : some ⟨b, 0, none⟩ = A ∧ c' = c := by simpa using hcc
    have n3 : decide (r3 < 0) = false := decide_eq_false (by omega)
    have w1_ : wrap64 (r3 + 1) = r3 + 1 := wrap_ok9 _ (by omega) (by have h9 : o.links.length ≤ bound := HXB.out; unfold bound at h9; omega)
    obtain ⟨t0, ht0, hz0, hz1, hz2⟩ := info_parts (P := Tryz.prog) (e := 42) (z := .agg #[.string ⟨#[]⟩, .int .i64 0, .string ⟨#[]⟩]) (size := 3) (bytes := 40) (by kernel_rfl)
    have hto := cut_to (P := Tryz.prog) 38 42 .i64 Tryz.underlying38 ht0 Ax o.links.length cx r3 (by omega) (by omega) hcx
    have hfrom := cut_from (P := Tryz.prog) 38 42 .i64 Tryz.underlying38 ht0 3 hz1 Ax o.links.length cx (r3 + 1) (by omega) (by omega)
    rw [show r3.toNat = q by omega] at hto
    rw [show (r3 + 1).toNat = q + 1 by omega] at hfrom
    have hdrop : ∀ W, LinksR W Ax o.links → LinksR W (if cx = q + 1 then Ax else Ax.map (·.add ((q + 1) * 3))) (o.links.drop (q + 1)) := fun W hW => links_dropped hW (q + 1) cx hcx
    obtain ⟨Af, hAf⟩ : ∃ Af, Af = (if cx = q + 1 then Ax else Ax.map (·.add ((q + 1) * 3))) := ⟨_, rfl⟩
    rw [← hAf] at hfrom hdrop
    have hE : ∀ W : World, (W.alloc (.cells #[] 42 (0, 0))).drew.ownsRow W.heap.size 42 3 (.slice (some ⟨W.heap.size, 0, none⟩) 0 0) 0 (cells3 []) := fun W => own_move (empty_own W) (fun _ _ => rfl)
    obtain ⟨A9, c9, w9, hr9, ho9, hb9, -⟩ := links_first w3 (below_drew (below_alloc (Below.refl _ _) _)) (hE w3) Ax q cx hxr (by show (o.links.take q).length = q; rw [List.length_take]; omega) HXB.out
    obtain ⟨A16, c16, w16, hr16, ho16, hg16⟩ := links_appended (base := w3.heap.size) hb9.size ho9 (n := o.links.length - (q + 1)) (c := cx - (q + 1)) (hdrop _ (hxr.below hb9)) (by rw [List.length_drop]) (by rw [List.length_drop]; have h9 : o.links.length ≤ bound := HXB.out; unfold bound at *; omega)
    have hb16 : Below w3.heap.size w3 w16 := hb9.grown hg16 hb9.size (fun q hq => (ho9.lt q hq).1)
    have hdel := delK_at HNM.out hq
    rw [← hdel] at ho16
    have hlen : q + (o.links.length - (q + 1)) = (delK k.1 o.links).length := by rw [hdel, List.length_append, List.length_take, List.length_drop]; omega
    rw [hlen] at hr16 ho16
    have hRL := HM3.out.1.links hb16 HJ.out ho16 c1
    obtain ⟨W17, hW17⟩ : ∃ W17, W17 = w16.setCell ⟨b, j * 4 + 2, none⟩ (.slice A16 (delK k.1 o.links).length c16) := ⟨_, rfl⟩
    rw [← hW17] at hRL
    have hT : TurnR w0 w3 g F G.next (cut2 G pid k).objs W17 := (turnR_of HM3.out (by rw [hW17]; exact (SameOn.of_below hb16).trans (SameOn.setCell _ _ _ (fun hn => hn hFb))) (hRL.mono (fun k hk => hk.imp_right (fun a => ⟨a.1, by rw [hW17]; simpa using a.2⟩)))).shape (shape_cut HOK.out.asc HJ.out k)
    obtain ⟨F1, hM1, i1, i2, i3⟩ := hT
    have HM1 := Aside0.mk hM1
    have HI1 := Aside0.mk i1
    have HI2 := Aside0.mk i2
    have HI3 := Aside0.mk i3
    have HW17 := Aside0.mk hW17
    have HR9 := Aside0.mk hr9
    have HR16 := Aside0.mk hr16
    have HB9 := Aside0.mk hb9
    have HB16 := Aside0.mk hb16
    have hx16 : w16.cell? ⟨b, j * 4 + 2, none⟩ = some (.slice Ax o.links.length cx) := (hb16.cell (World.block_lt_of_cell? _ _ x2)).trans x2
    have hf16 : w16.frozen? ⟨b, j * 4 + 2, none⟩ = false := (frozen_same hb16 hbl).trans (hfz _)
    have HHL : Aside0 (∀ W', Below w3.heap.size w3 W' → W'.cell? ⟨g, 1, none⟩ = some (.slice (some ⟨b, 0, none⟩) G.objs.length c')) := ⟨fun W' hb => (hb.cell (World.block_lt_of_cell? _ _ c1)).trans c1⟩
    clear hq hrq hql hFb hbl hcx hxr hfz hcc ht0 hz0 hz1 hz2 hdrop hAf hE hr9 ho9 hb9 hr16 ho16 hg16 hb16 hdel hlen hRL hW17 hM1 i1 i2 i3
    go_upto_region 9 with (go_at_call 56; refine (refAt_at _ g G.next _ c' G.objs (HR.out.below HW3.out) HOK.out.asc (ok_few HOK.out) HJ.out pid iv rfl HIV.out).mono ?_; rintro e_ w_ ⟨rfl, h_⟩; obtain rfl := h_.symm)
    refine start_ (n := 18) (S := fun w' => w'.cell? ⟨g, 1, none⟩ = some (.slice (some ⟨b, 0, none⟩) G.objs.length c')) (ds := [17]) #[false, false, false, false, false, false, false, false, false, false, false, false, false, false, false, false, false, false] (by kernel_rfl) rfl rfl (c1) (fun hHeld => ?_)
    refine pure_ (i := 0) (N := some 39) (v := ?_) (a' := ?_) (bb 18 1) rfl rfl (by kernel_rfl) (fun _ _ _ h => h) (Or.inl ⟨by rfl, ?_⟩) ?_ ?_
    rotate_left
    · intro w'
      go_simp
      with_reducible rfl
    rotate_left
    · simp only [Act.put, sa, sz, ss, i64_w, i32_w]
      rfl
    refine pure_ (i := 1) (N := some 40) (v := ?_) (a' := ?_) (bb 18 3) rfl rfl (by kernel_rfl) (fun _ _ _ h => h) (Or.inl ⟨by rfl, ?_⟩) ?_ ?_
    rotate_left
    · intro w'
      go_simp
      with_reducible rfl
    rotate_left
    · simp only [Act.put, sa, sz, ss, i64_w, i32_w]
      rfl
    refine pure_ (i := 2) (N := some 41) (v := ?_) (a' := ?_) (bb 18 7) rfl rfl (by kernel_rfl) (fun _ _ _ h => h) (Or.inl ⟨by rfl, ?_⟩) ?_ ?_
    rotate_left
    · intro w'
      go_simp
      with_reducible rfl
    rotate_left
    · simp only [Act.put, sa, sz, ss, i64_w, i32_w]
      rfl
    refine pure_ (i := 4) (N := some 43) (v := ?_) (a' := ?_) (bb 18 23) rfl rfl (by kernel_rfl) (fun _ _ _ h => h) (Or.inl ⟨by rfl, ?_⟩) ?_ ?_
    rotate_left
    · intro w'
      go_simp
      with_reducible rfl
    rotate_left
    · simp only [Act.put, sa, sz, ss, i64_w, i32_w]
      rfl
    refine pure_ (i := 6) (N := some 45) (v := ?_) (a' := ?_) (bb 18 87) rfl rfl (by kernel_rfl) (fun _ _ _ h => h) (Or.inl ⟨by rfl, ?_⟩) ?_ ?_
    rotate_left
    · intro w'
      go_simp
      with_reducible rfl
    rotate_left
    · simp only [Act.put, sa, sz, ss, i64_w, i32_w]
      rfl
    refine pure_ (i := 7) (N := some 46) (v := ?_) (a' := ?_) (bb 18 215) rfl rfl (by kernel_rfl) (fun _ _ _ h => h) (Or.inl ⟨by rfl, ?_⟩) ?_ ?_
    rotate_left
    · intro w'
      go_simp
      with_reducible rfl
    rotate_left
    · simp only [Act.put, sa, sz, ss, i64_w, i32_w]
      rfl
    refine pure_ (i := 8) (N := some 47) (v := ?_) (a' := ?_) (bb 18 471) rfl rfl (by kernel_rfl) (fun _ _ _ h => h) (Or.inl ⟨by rfl, ?_⟩) ?_ ?_
    rotate_left
    · intro w'
      go_simp
      with_reducible rfl
    rotate_left
    · simp only [Act.put, sa, sz, ss, i64_w, i32_w]
      rfl
    refine pure_ (i := 10) (N := some 49) (v := ?_) (a' := ?_) (bb 18 1495) rfl rfl (by kernel_rfl) (fun _ _ _ h => h) (Or.inl ⟨by rfl, ?_⟩) ?_ ?_
    rotate_left
    · intro w'
      go_simp
      with_reducible rfl
    rotate_left
    · simp only [Act.put, sa, sz, ss, i64_w, i32_w]
      rfl
    refine pure_ (i := 11) (N := some 50) (v := ?_) (a' := ?_) (bb 18 3543) rfl rfl (by kernel_rfl) (fun _ _ _ h => h) (Or.inl ⟨by rfl, ?_⟩) ?_ ?_
    rotate_left
    · intro w'
      go_simp
      with_reducible rfl
    rotate_left
    · simp only [Act.put, sa, sz, ss, i64_w, i32_w]
      rfl
    refine pure_ (i := 12) (N := some 51) (v := ?_) (a' := ?_) (bb 18 7639) rfl rfl (by kernel_rfl) (fun _ _ _ h => h) (Or.inl ⟨by rfl, ?_⟩) ?_ ?_
    rotate_left
    · intro w'
      go_simp
      with_reducible rfl
    rotate_left
    · simp only [Act.put, sa, sz, ss, i64_w, i32_w]
      rfl
    refine pure_ (i := 13) (N := some 52) (v := ?_) (a' := ?_) (bb 18 15831) rfl rfl (by kernel_rfl) (fun _ _ _ h => h) (Or.inl ⟨by rfl, ?_⟩) ?_ ?_
    rotate_left
    · intro w'
      go_simp
      with_reducible rfl
    rotate_left
    · simp only [Act.put, sa, sz, ss, i64_w, i32_w]
      rfl
    refine take_ (i := 3) (N := some 42) (v := ?_) (a' := ?_) (bb 18 15839) rfl rfl (by kernel_rfl) (fun _ _ _ h => h) (Or.inl ⟨by rfl, ?_⟩) hHeld ?_ ?_
    rotate_left
    · intro w' s0
      go_simp
      with_reducible rfl
    rotate_left
    · simp only [Act.put, sa, sz, ss, i64_w, i32_w]
      rfl
    refine one_ (i := 5) (N := some 44) (bb 18 15871) rfl rfl (by kernel_rfl) (by decide) (fun K hK => ?_)
    refine value_ (w1 := ?_) (v := ?_) (by rfl) rfl ?_ ?_
    rotate_left 2
    · go_simp
      constructor
      · rfl
      · rfl
    refine hK.out _ _ (HHL.out _ (below_drew (below_alloc (Below.refl _ _) _))) (fun hHeld => ?_)
    clear hK K
    refine norm_ (a' := ?_) ?_ ?_
    rotate_left
    · show Act.put _ (some 44) _ = _
      simp only [Act.put, sa, sz, ss, i64_w, i32_w]
      rfl
    refine one_ (i := 9) (N := some 48) (bb 18 16383) rfl rfl (by kernel_rfl) (by decide) (fun K hK => ?_)
    refine step_append rfl (.tmp 44) (.tmp 47) 38 rfl rfl rfl HR9.out ?_
    refine hK.out _ _ (HHL.out _ HB9.out) (fun hHeld => ?_)
    clear hK K
    refine norm_ (a' := ?_) ?_ ?_
    rotate_left
    · show Act.put _ (some 48) _ = _
      simp only [Act.put, sa, sz, ss, i64_w, i32_w]
      rfl
    refine one_ (i := 14) (N := some 53) (bb 18 32767) rfl rfl (by kernel_rfl) (by decide) (fun K hK => ?_)
    refine step_append rfl (.tmp 48) (.tmp 52) 38 rfl rfl rfl HR16.out ?_
    refine hK.out _ _ (HHL.out _ HB16.out) (fun hHeld => ?_)
    clear hK K
    refine norm_ (a' := ?_) ?_ ?_
    rotate_left
    · show Act.put _ (some 53) _ = _
      simp only [Act.put, sa, sz, ss, i64_w, i32_w]
      rfl
    refine pure_ (i := 15) (N := some 54) (v := ?_) (a' := ?_) (bb 18 65535) rfl rfl (by kernel_rfl) (fun _ _ _ h => h) (Or.inl ⟨by rfl, ?_⟩) ?_ ?_
    rotate_left
    · intro w'
      go_simp
      with_reducible rfl
    rotate_left
    · simp only [Act.put, sa, sz, ss, i64_w, i32_w]
      rfl
    refine pure_ (i := 16) (N := some 55) (v := ?_) (a' := ?_) (bb 18 131071) rfl rfl (by kernel_rfl) (fun _ _ _ h => h) (Or.inl ⟨by rfl, ?_⟩) ?_ ?_
    rotate_left
    · intro w'
      go_simp
      with_reducible rfl
    rotate_left
    · simp only [Act.put, sa, sz, ss, i64_w, i32_w]
      rfl
    refine last_ (i := 17) (N := none) (bb 18 262143) rfl rfl (by kernel_rfl) (by decide) (fun K hK => ?_)
    refine skip_ (w1 := ?_) (by rfl) rfl ?_ ?_
    rotate_left
    · go_simp
      rfl
    refine hK.out _ _ ?_
    clear hK K
    refine done_ (by kernel_rfl) ?_
    rw [← HW17.out]
    clear c1 x2 hx16 hf16 hto hfrom q2 q3 q4 n3 w1_
    have HCUT := Aside0.mk (cut_ok HOK.out HOO.out HK'.out)
    go_wp2_with (go_at_call 91; refine (refSwept_calls w0 W17 g F1 G.next (cut2 G pid k).objs HM1.out HCUT.out.asc (by have := HCUT.out.size; omega) (by have := HCUT.out.links; omega)).mono ?_; rintro e_ w18 ⟨v, out, s, m, rfl, hrow, hrem, hdone, hperm, hsort, hturn⟩; have HROW := Aside0.mk hrow; have HREM := Aside0.mk hrem; have HDONE := Aside0.mk hdone; have HPERM := Aside0.mk hperm; have HSORT := Aside0.mk hsort; have HTURN := Aside0.mk hturn; clear hrow hrem hdone hperm hsort hturn)
    go_ret2
    have hbase : w.heap.size ≤ W17.heap.size := Nat.le_trans HW3.out.size HI3.out.size
    rcases HSW.out with ⟨h0, rfl, rfl⟩ | ⟨h0, -, -, hst, hcl⟩
    · obtain ⟨rfl, rfl⟩ := rem_none HREM.out (rest_none HCUT.out (cut_rest HOK.out HLV.out.rest h0))
      obtain rfl := List.perm_nil.1 HPERM.out
      refine ⟨v, rfl, ?_, (HTURN.out.comp HI1.out HI2.out HI3.out).from HW3.out⟩
      rw [sortI_nil]
      exact HROW.out.mono hbase
    · obtain ⟨rfl, hsh⟩ := swept_same HCUT.out (acyc_cut HLV.out.ac pid k) hst hcl (unlink_rest HOK.out HLV.out.rest hst hcl) HREM.out HDONE.out HPERM.out HSORT.out
      refine ⟨v, rfl, HROW.out.mono hbase, ?_⟩
      have hnx : G2.next = G.next := hst.next
      rw [hnx]
      exact ((HTURN.out.comp HI1.out HI2.out HI3.out).from HW3.out).shape hsh
end
end Go.Proofs.YthifdofdoeaemaaGreatDoor.Wk
end
section
namespace Go.Proofs.YthifdofdoeaemaaGreatDoor.Wk
open Go.RowKit Go.Proofs.YthifdofdoeaemaaGreatDoorW.PrintWords Go.Proofs.YthifdofdoeaemaaGreatDoorW.PrintLast Go.Proofs.YthifdofdoeaemaaGreatDoorW.PrintMore
attribute [local go_sem] max2_int min2_int max_two min_two max_three min_three max_four min_four
set_option linter.unusedVariables false
set_option linter.unusedSimpArgs false
section
open Go.RowKit Go.Lib Go.Maps Go.Proofs.YthifdofdoeaemaaGreatDoorQ
attribute [local go_sem] Oper.semAt_some
set_option maxHeartbeats 16000000 in
set_option maxRecDepth 100000 in
theorem refNames_calls (w : World) (g : Nat) (G : GS) (A : Option Addr) (c : Nat) (hr : RefR w g G.next A c G.objs) (hok : Ok G) (p : ByteArray) (l : List Lk) (e : Int) (h : namesG G p = some (l, e)) :
    Calls Tryz.prog 70 #[.pointer (some ⟨g, 0, none⟩), .string p] w fun ev w' => ∃ v, ev = .returned (.tuple #[v, .int .i64 e]) ∧ w'.ownsRow w.heap.size 42 3 v l.length (cells3 l) ∧ Below w.heap.size w w' := by
  have HR := Aside0.mk hr
  have HOK := Aside0.mk hok
  unfold namesG at h
  obtain ⟨⟨fid, fe⟩, hf, hfo, -⟩ := find_ok hok p
  rw [hf] at h
  simp only at h hfo
  have HF := Aside0.mk hf
  clear hr hok hf
  by_cases hy : fe = 0
  rotate_left
  · rw [if_neg hy] at h
    obtain ⟨rfl, rfl⟩ : ([] : List Lk) = l ∧ fe = e := by simpa using h
    have n1 : (fe != 0) = true := by simpa using hy
    clear h hy hfo
    go_enter Tryz.func70, Tryz.ntmps70
    go_wp2_with (go_at_call 68; refine (refFind_calls _ g G A c HR.out HOK.out p _ _ HF.out).mono ?_; rintro e_ w2 ⟨rfl, hw2⟩; have HW2 := Aside0.mk hw2; clear hw2)
    go_ret2
    exact ⟨_, rfl, World.ownsRow_nil _ _ _ _, HW2.out⟩
  subst hy
  rw [if_pos rfl] at h
  obtain ⟨o, ho⟩ := hfo rfl
  rw [HOK.out.obj ho] at h
  simp only at h
  obtain ⟨j, hj⟩ := List.mem_iff_getElem?.1 ho
  obtain ⟨jv, hjv⟩ : ∃ jv, jv = (j : Int) := ⟨_, rfl⟩
  have hjl := (List.getElem?_eq_some_iff.1 hj).1
  have j1 : (jv < (G.objs.length : Int)) = True := eq_true (by omega)
  have j2 : ((0 : Int) ≤ jv) = True := eq_true (by omega)
  have j3 : jv.toNat = j := by omega
  have HJ := Aside0.mk hj
  have HJV := Aside0.mk hjv
  have HXB : Aside0 (o.links.length ≤ bound) := ⟨ok_short HOK.out _ ho⟩
  clear ho hj hjv hjl hfo
  go_enter Tryz.func70, Tryz.ntmps70
  go_upto_region 4 with (go_at_call 68; refine (refFind_calls _ g G A c HR.out HOK.out p _ _ HF.out).mono ?_; rintro e_ w3 ⟨rfl, hw3⟩; have HBW3 := Aside0.mk hw3; clear hw3)
  have HRW3 := Aside0.mk (HR.out.below HBW3.out)
  obtain ⟨b, ob, Ax, cx, hAe, -, x0, x1, x2, x3, -, hxr⟩ := HRW3.out.objs.at HJ.out
  subst hAe
  have HXR := Aside0.mk hxr
  have c1 := HRW3.out.c1
  clear hxr
  have HRD : Aside0 (RefR w3.drew g G.next (some ⟨b, ob, none⟩) c G.objs) := ⟨HRW3.out.below (below_drew (Below.refl _ _))⟩
  have HRE : Aside0 (∀ ob2, RefR (w3.alloc ob2).drew g G.next (some ⟨b, ob, none⟩) c G.objs) := ⟨fun ob2 => (HRW3.out.below (below_alloc (Below.refl _ _) _)).below (below_drew (Below.refl _ _))⟩
  have HAL : Aside0 (∀ (W : World) (a : Addr) (v : Value) (o : Obj), W.cell? a = some v → (W.alloc o).cell? a = some v) := ⟨fun W a v o h => ((below_alloc (Below.refl _ _) _).cell (World.block_lt_of_cell? _ _ h)).trans h⟩
  refine start_ (n := 11) (S := fun w' => w'.cell? ⟨g, 1, none⟩ = some (.slice (some ⟨b, ob, none⟩) G.objs.length c) ∧ w'.cell? ⟨b, ob + j * 4, none⟩ = some (.int .i64 fid) ∧ w'.cell? ⟨b, ob + j * 4 + 1, none⟩ = some (.int .i64 o.kind) ∧ w'.cell? ⟨b, ob + j * 4 + 2, none⟩ = some (.slice Ax o.links.length cx) ∧ w'.cell? ⟨b, ob + j * 4 + 3, none⟩ = some (.int .i64 o.held)) (ds := [10]) #[false, false, false, false, false, false, false, false, false, false, false] (by kernel_rfl) rfl rfl ⟨c1, x0, x1, x2, x3⟩ (fun hHeld => ?_)
  refine pure_ (i := 0) (N := some 18) (v := ?_) (a' := ?_) (bb 11 1) rfl rfl (by kernel_rfl) (fun _ _ _ h => h) (Or.inl ⟨by rfl, ?_⟩) ?_ ?_
  rotate_left
  · intro w'
    go_simp
    with_reducible rfl
  rotate_left
  · simp only [Act.put, sa, sz, ss, i64_w, i32_w]
    rfl
  refine pure_ (i := 1) (N := some 19) (v := ?_) (a' := ?_) (bb 11 3) rfl rfl (by kernel_rfl) (fun _ _ _ h => h) (Or.inl ⟨by rfl, ?_⟩) ?_ ?_
  rotate_left
  · intro w'
    go_simp
    with_reducible rfl
  rotate_left
  · simp only [Act.put, sa, sz, ss, i64_w, i32_w]
    rfl
  refine pure_ (i := 2) (N := some 20) (v := ?_) (a' := ?_) (bb 11 7) rfl rfl (by kernel_rfl) (fun _ _ _ h => h) (Or.inl ⟨by rfl, ?_⟩) ?_ ?_
  rotate_left
  · intro w'
    go_simp
    with_reducible rfl
  rotate_left
  · simp only [Act.put, sa, sz, ss, i64_w, i32_w]
    rfl
  refine pure_ (i := 4) (N := some 22) (v := ?_) (a' := ?_) (bb 11 23) rfl rfl (by kernel_rfl) (fun _ _ _ h => h) (Or.inl ⟨by rfl, ?_⟩) ?_ ?_
  rotate_left
  · intro w'
    go_simp
    with_reducible rfl
  rotate_left
  · simp only [Act.put, sa, sz, ss, i64_w, i32_w]
    rfl
  refine pure_ (i := 5) (N := some 23) (v := ?_) (a' := ?_) (bb 11 55) rfl rfl (by kernel_rfl) (fun _ _ _ h => h) (Or.inl ⟨by rfl, ?_⟩) ?_ ?_
  rotate_left
  · intro w'
    go_simp
    with_reducible rfl
  rotate_left
  · simp only [Act.put, sa, sz, ss, i64_w, i32_w]
    rfl
  refine take_ (i := 3) (N := some 21) (v := ?_) (a' := ?_) (bb 11 63) rfl rfl (by kernel_rfl) (fun _ _ _ h => h) (Or.inl ⟨by rfl, ?_⟩) hHeld ?_ ?_
  rotate_left
  · rintro w' ⟨s0, s1, s2, s3, s4⟩
    go_simp
    with_reducible rfl
  rotate_left
  · simp only [Act.put, sa, sz, ss, i64_w, i32_w]
    rfl
  refine join_ (σ := Unit) 1 #[true, true, true, true, true, true, true, true, true, true, false] (fun s => [(24, .int .i64 jv), (8, .pointer (some ⟨w3.heap.size, 0, none⟩)), (25, .pointer (some ⟨b, ob + j * 4, none⟩)), (26, .agg #[.int .i64 fid, .int .i64 o.kind, .slice Ax o.links.length cx, .int .i64 o.held])]) (fun _ w' => w' = (w3.alloc (.cells #[.int .i64 0, .int .i64 0, .slice none 0 0, .int .i64 0] 106 (0, 0))).drew) ?_ ?_
  rotate_left
  · intro hCont
    refine two_ (i := 6) (j := 9) (Ni := some 24) (Nj := some 8) #[true, true, true, true, true, true, true, false, false, false, false] #[true, true, true, true, true, true, false, false, false, true, false] rfl rfl rfl rfl (by kernel_rfl) (by decide) (by decide) (fun K hK => ?_) (fun K hK => ?_)
    · skip
      refine goes_ Tryz.func56 (by kernel_rfl) rfl #[.pointer (some ⟨g, 0, none⟩), .int .i64 fid] (by rfl) rfl rfl (by simp only [List.map_toArray, List.map_cons, List.map_nil]; rfl) ?_
      with_reducible refine (refAt_at _ g G.next _ c G.objs (by first | exact HRD.out | exact HRE.out _) HOK.out.asc (ok_few HOK.out) HJ.out fid jv rfl HJV.out).mono ?_
      rintro e_ w_ ⟨rfl, h_⟩
      refine ⟨_, rfl, ?_⟩
      subst h_
      refine hK.out _ _ ⟨hHeld.1, hHeld.2.1, hHeld.2.2.1, hHeld.2.2.2.1, hHeld.2.2.2.2⟩ (fun hHeld => ?_)
      clear hK K
      refine norm_ (a' := ?_) ?_ ?_
      rotate_left
      · show Act.put _ (some 24) _ = _
        simp only [Act.put, sa, sz, ss, i64_w, i32_w]
        rfl
      refine pure_ (i := 7) (N := some 25) (v := ?_) (a' := ?_) (bb 11 255) rfl rfl (by kernel_rfl) (fun _ _ _ h => h) (Or.inl ⟨by rfl, ?_⟩) ?_ ?_
      rotate_left
      · intro w'
        go_simp
        with_reducible rfl
      rotate_left
      · simp only [Act.put, sa, sz, ss, i64_w, i32_w]
        rfl
      refine take_ (i := 8) (N := some 26) (v := ?_) (a' := ?_) (bb 11 511) rfl rfl (by kernel_rfl) (fun _ _ _ h => h) (Or.inl ⟨by rfl, ?_⟩) hHeld ?_ ?_
      rotate_left
      · rintro w' ⟨s0, s1, s2, s3, s4⟩
        go_simp
        with_reducible rfl
      rotate_left
      · simp only [Act.put, sa, sz, ss, i64_w, i32_w]
        rfl
      refine one_ (i := 9) (N := some 8) (bb 11 1023) rfl rfl (by kernel_rfl) (by decide) (fun K hK => ?_)
      refine value_ (w1 := ?_) (v := ?_) (by rfl) rfl ?_ ?_
      rotate_left 2
      · go_simp
        constructor
        · rfl
        · rfl
      refine hK.out _ _ ⟨HAL.out _ _ _ _ hHeld.1, HAL.out _ _ _ _ hHeld.2.1, HAL.out _ _ _ _ hHeld.2.2.1, HAL.out _ _ _ _ hHeld.2.2.2.1, HAL.out _ _ _ _ hHeld.2.2.2.2⟩ (fun hHeld => ?_)
      clear hK K
      refine norm_ (a' := ?_) ?_ ?_
      rotate_left
      · show Act.put _ (some 8) _ = _
        simp only [Act.put, sa, sz, ss, i64_w, i32_w]
        rfl
      exact norm_ (by simp only [putAll, Act.put, List.setIfInBounds_toArray, List.set_cons_zero, List.set_cons_succ]) (hCont () _ rfl)
    · skip
      refine value_ (w1 := ?_) (v := ?_) (by rfl) rfl ?_ ?_
      rotate_left 2
      · go_simp
        constructor
        · rfl
        · rfl
      refine hK.out _ _ ⟨HAL.out _ _ _ _ hHeld.1, HAL.out _ _ _ _ hHeld.2.1, HAL.out _ _ _ _ hHeld.2.2.1, HAL.out _ _ _ _ hHeld.2.2.2.1, HAL.out _ _ _ _ hHeld.2.2.2.2⟩ (fun hHeld => ?_)
      clear hK K
      refine norm_ (a' := ?_) ?_ ?_
      rotate_left
      · show Act.put _ (some 8) _ = _
        simp only [Act.put, sa, sz, ss, i64_w, i32_w]
        rfl
      refine one_ (i := 6) (N := some 24) (bb 11 639) rfl rfl (by kernel_rfl) (by decide) (fun K hK => ?_)
      refine goes_ Tryz.func56 (by kernel_rfl) rfl #[.pointer (some ⟨g, 0, none⟩), .int .i64 fid] (by rfl) rfl rfl (by simp only [List.map_toArray, List.map_cons, List.map_nil]; rfl) ?_
      with_reducible refine (refAt_at _ g G.next _ c G.objs (by first | exact HRD.out | exact HRE.out _) HOK.out.asc (ok_few HOK.out) HJ.out fid jv rfl HJV.out).mono ?_
      rintro e_ w_ ⟨rfl, h_⟩
      refine ⟨_, rfl, ?_⟩
      subst h_
      refine hK.out _ _ ⟨hHeld.1, hHeld.2.1, hHeld.2.2.1, hHeld.2.2.2.1, hHeld.2.2.2.2⟩ (fun hHeld => ?_)
      clear hK K
      refine norm_ (a' := ?_) ?_ ?_
      rotate_left
      · show Act.put _ (some 24) _ = _
        simp only [Act.put, sa, sz, ss, i64_w, i32_w]
        rfl
      refine pure_ (i := 7) (N := some 25) (v := ?_) (a' := ?_) (bb 11 767) rfl rfl (by kernel_rfl) (fun _ _ _ h => h) (Or.inl ⟨by rfl, ?_⟩) ?_ ?_
      rotate_left
      · intro w'
        go_simp
        with_reducible rfl
      rotate_left
      · simp only [Act.put, sa, sz, ss, i64_w, i32_w]
        rfl
      refine take_ (i := 8) (N := some 26) (v := ?_) (a' := ?_) (bb 11 1023) rfl rfl (by kernel_rfl) (fun _ _ _ h => h) (Or.inl ⟨by rfl, ?_⟩) hHeld ?_ ?_
      rotate_left
      · rintro w' ⟨s0, s1, s2, s3, s4⟩
        go_simp
        with_reducible rfl
      rotate_left
      · simp only [Act.put, sa, sz, ss, i64_w, i32_w]
        rfl
      exact norm_ (by simp only [putAll, Act.put, List.setIfInBounds_toArray, List.set_cons_zero, List.set_cons_succ]) (hCont () _ rfl)
  rintro _ w4 hw4
  have hpb : w4.heap[w3.heap.size]? = some (.cells #[.int .i64 0, .int .i64 0, .slice none 0 0, .int .i64 0] 106 (0, 0)) := by rw [hw4]; exact World.alloc_heap_new _ _
  have hb4 : Below w3.heap.size w3 w4 := by rw [hw4]; exact below_drew (below_alloc (Below.refl _ _) _)
  obtain ⟨pb, hpbe⟩ : ∃ pb, pb = w3.heap.size := ⟨_, rfl⟩
  rw [← hpbe] at hpb
  rw [← hpbe]
  have hHeld : w4.cell? ⟨g, 1, none⟩ = some (.slice (some ⟨b, ob, none⟩) G.objs.length c) ∧ w4.cell? ⟨b, ob + j * 4, none⟩ = some (.int .i64 fid) ∧ w4.cell? ⟨b, ob + j * 4 + 1, none⟩ = some (.int .i64 o.kind) ∧ w4.cell? ⟨b, ob + j * 4 + 2, none⟩ = some (.slice Ax o.links.length cx) ∧ w4.cell? ⟨b, ob + j * 4 + 3, none⟩ = some (.int .i64 o.held) :=
    ⟨(hb4.cell (World.block_lt_of_cell? _ _ c1)).trans c1, (hb4.cell (World.block_lt_of_cell? _ _ x0)).trans x0, (hb4.cell (World.block_lt_of_cell? _ _ x1)).trans x1, (hb4.cell (World.block_lt_of_cell? _ _ x2)).trans x2, (hb4.cell (World.block_lt_of_cell? _ _ x3)).trans x3⟩
  have u0 : w4.cell? ⟨pb, 0, none⟩ = some (.int .i64 0) := (blk_cell hpb 0).trans rfl
  have u1 : w4.cell? ⟨pb, 1, none⟩ = some (.int .i64 0) := (blk_cell hpb 1).trans rfl
  have u2 : w4.cell? ⟨pb, 2, none⟩ = some (.slice none 0 0) := (blk_cell hpb 2).trans rfl
  have u3 : w4.cell? ⟨pb, 3, none⟩ = some (.int .i64 0) := (blk_cell hpb 3).trans rfl
  have f0 : w4.frozen? ⟨pb, 0, none⟩ = false := blk_frozen hpb 0
  have f1 : w4.frozen? ⟨pb, 1, none⟩ = false := blk_frozen hpb 1
  have f2 : w4.frozen? ⟨pb, 2, none⟩ = false := blk_frozen hpb 2
  have f3 : w4.frozen? ⟨pb, 3, none⟩ = false := blk_frozen hpb 3
  have HPB := Aside0.mk hpb
  have HB4 := Aside0.mk hb4
  have HPE := Aside0.mk hpbe
  clear hpb hb4 hpbe hw4
  refine norm_ (a' := ?_) ?_ ?_
  rotate_left
  · simp only [putAll, Act.put, List.setIfInBounds_toArray, List.set_cons_zero, List.set_cons_succ]
    rfl
  refine last_ (i := 10) (N := none) (bb 11 2047) rfl rfl (by kernel_rfl) (by decide) (fun K hK => ?_)
  refine skip_ (w1 := ?_) (by rfl) rfl ?_ ?_
  rotate_left
  · go_simp
    rfl
  refine hK.out _ _ ?_
  clear hK K
  refine done_ (by kernel_rfl) ?_
  obtain ⟨w5, hw5⟩ : ∃ w5, w5 = (((w4.setCell ⟨pb, 0, none⟩ (.int .i64 fid)).setCell ⟨pb, 1, none⟩ (.int .i64 o.kind)).setCell ⟨pb, 2, none⟩ (.slice Ax o.links.length cx)).setCell ⟨pb, 3, none⟩ (.int .i64 o.held) := ⟨_, rfl⟩
  rw [← hw5]
  have hle : w3.heap.size ≤ pb := by rw [HPE.out]; exact Nat.le_refl _
  have hb35 : Below w3.heap.size w3 w5 := by
    rw [hw5]
    exact (((HB4.out.setCell hle _).setCell hle _).setCell hle _).setCell hle _
  have hp5 : w5.heap[pb]? = some (.cells #[.int .i64 fid, .int .i64 o.kind, .slice Ax o.links.length cx, .int .i64 o.held] 106 (0, 0)) := by
    rw [hw5]
    exact (blk_set ((blk_set ((blk_set ((blk_set HPB.out 0 _).trans rfl) 1 _).trans rfl) 2 _).trans rfl) 3 _).trans rfl
  have HBW5 : Aside0 (Below w.heap.size w w5) := ⟨HBW3.out.trans (hb35.mono HBW3.out.size)⟩
  have p1 : w5.cell? ⟨pb, 1, none⟩ = some (.int .i64 o.kind) := (blk_cell hp5 1).trans rfl
  have p2 : w5.cell? ⟨pb, 2, none⟩ = some (.slice Ax o.links.length cx) := (blk_cell hp5 2).trans rfl
  have p2' : (w5.alloc (.cells #[] 42 (0, 0))).cell? ⟨pb, 2, none⟩ = some (.slice Ax o.links.length cx) := ((below_alloc (Below.refl _ _) _).cell (World.block_lt_of_cell? _ _ p2)).trans p2
  obtain ⟨A9, c9, w9, hr9, ho9, hb9⟩ := links_copied w5 (A := Ax) (n := o.links.length) (c := cx) (HXR.out.below hb35) rfl HXB.out
  have HR9 := Aside0.mk hr9
  have HO9 := Aside0.mk ho9
  have HB9 := Aside0.mk hb9
  clear u0 u1 u2 u3 f0 f1 f2 f3 c1 x0 x1 x2 x3 j1 j2 j3 hw5 hb35 hp5 hr9 ho9 hb9 hle
  by_cases hk : o.kind = 1
  · rw [if_pos hk, if_pos HXB.out] at h
    obtain ⟨rfl, rfl⟩ : o.links = l ∧ (0 : Int) = e := by simpa using h
    have hkb : (o.kind != 1) = false := by simpa using hk
    clear h hk
    go_wp2_with (at_builtin; refine wpList_append_run rfl _ _ 38 rfl rfl rfl HR9.out ?_)
    go_ret2
    exact ⟨_, rfl, HO9.out.mono HBW5.out.size, HBW5.out.trans (HB9.out.mono HBW5.out.size)⟩
  · rw [if_neg hk] at h
    obtain ⟨rfl, rfl⟩ : ([] : List Lk) = l ∧ (12 : Int) = e := by simpa using h
    have hkb : (o.kind != 1) = true := by simpa using hk
    clear h hk
    go_wp2
    go_ret2
    exact ⟨_, rfl, World.ownsRow_nil _ _ _ _, HBW5.out⟩
end
end Go.Proofs.YthifdofdoeaemaaGreatDoor.Wk
end
section
namespace Go.Proofs.YthifdofdoeaemaaGreatDoor.Wk
open Go.RowKit Go.Proofs.YthifdofdoeaemaaGreatDoorW.PrintWords Go.Proofs.YthifdofdoeaemaaGreatDoorW.PrintLast Go.Proofs.YthifdofdoeaemaaGreatDoorW.PrintMore
attribute [local go_sem] max2_int min2_int max_two min_two max_three min_three max_four min_four
set_option linter.unusedVariables false
set_option linter.unusedSimpArgs false
section
open Go.RowKit Go.Lib Go.Maps Go.Proofs.YthifdofdoeaemaaGreatDoorQ
attribute [local go_sem] Oper.semAt_some
set_option maxHeartbeats 4000000 in
set_option maxRecDepth 100000 in
theorem clone_calls {H : Type} {R : Value → Option (DataW H × List MemPlace)} {n : Nat} {D : DataW H} (b : Nat) (w : World) (hown : w.ownsMap Tryz.prog 9 R b n D) :
    Calls Tryz.prog 63 #[.map (some b)] w fun e w' => e = .returned (.map (some w.heap.size)) ∧ w'.ownsMap Tryz.prog 9 R w.heap.size n D ∧ Below w.heap.size w w' := by
  obtain ⟨es, clock, hb, F, hs, hD⟩ := hown
  have HF := Aside0.mk (And.intro F (And.intro hs hD))
  have HB := Aside0.mk hb
  have hq := fun w => run_eql_map_nil_sl (P := Tryz.prog) w 87 _ _ (some b) Tryz.underlying87
  clear F hs hD
  go_enter Tryz.func63, Tryz.ntmps63
  go_wp2
  rw [run_callFunc_extern Tryz.func86 (by kernel_rfl) (by kernel_rfl) (by kernel_rfl) (e := Extern.MapsClone.clone) (by kernel_rfl), run_maps_clone_sl w 87 hb]
  simp only [Result.andThen]
  rw [Oper.upon_value]
  go_wp2
  rw [run_typeAssert_map_sl _ 87 _ _ _ _ Tryz.underlying87]
  simp only [Result.andThen]
  rw [Oper.upon_value]
  go_wp2
  go_ret
  exact ⟨rfl, ⟨es, clock, World.alloc_heap_new _ _, HF.out⟩, below_alloc (Below.refl _ _) _⟩
theorem asc_same : ∀ {a b : List (Int × GO)}, Asc a → Asc b → (∀ s, s ∈ a ↔ s ∈ b) → a = b
  | [], [], _, _, _ => rfl
  | [], y :: b, _, _, h => by have := (h y).2 (List.mem_cons_self ..); cases this
  | x :: a, [], _, _, h => by have := (h x).1 (List.mem_cons_self ..); cases this
  | x :: a, y :: b, ha, hb, h => by
    unfold Asc at ha hb
    rw [List.pairwise_cons] at ha hb
    have e : x = y := by
      rcases List.mem_cons.1 ((h x).1 (List.mem_cons_self ..)) with h1 | h1
      · exact h1
      rcases List.mem_cons.1 ((h y).2 (List.mem_cons_self ..)) with h2 | h2
      · exact h2.symm
      have h3 := ha.1 y h2
      have h4 := hb.1 x h1
      omega
    subst e
    congr 1
    refine asc_same ha.2 hb.2 (fun s => ⟨fun hs => ?_, fun hs => ?_⟩)
    · rcases List.mem_cons.1 ((h s).1 (List.mem_cons_of_mem _ hs)) with h1 | h1
      · subst h1
        have := ha.1 _ hs
        omega
      · exact h1
    · rcases List.mem_cons.1 ((h s).2 (List.mem_cons_of_mem _ hs)) with h1 | h1
      · subst h1
        have := hb.1 _ hs
        omega
      · exact h1
def visO (left : Lit → Bool) (l : List (Int × GO)) : List (Int × GO) := l.filter (fun x => !left (keyO x.1))
theorem visO_asc {left : Lit → Bool} {l : List (Int × GO)} (h : Asc l) : Asc (visO left l) := List.Pairwise.filter _ h
theorem visO_none {left : Lit → Bool} {l : List (Int × GO)} {id : Int} (h : left (keyO id) = true) (n c : Int) : (GS.mk n c (visO left l)).at id = none := by
  refine (show (GS.mk n c (visO left l)).at id = (GS.mk 0 0 (visO left l)).at id from rfl).trans (has_at.2 ?_)
  rintro ⟨o, ho⟩
  have := (List.mem_filter.1 ho).2
  rw [h] at this
  cases this
theorem visO_put {left : Lit → Bool} {l : List (Int × GO)} (ha : Asc l) {id : Int} {o : GO} (ho : (id, o) ∈ l) (h : left (keyO id) = true) : putO (id, o) (visO left l) = visO (fun x => left x && !x.sameKey (keyO id)) l := by
  refine asc_same (asc_put (visO_asc ha) _) (visO_asc ha) (fun s => ?_)
  rw [mem_putO]
  unfold visO
  rw [List.mem_filter, List.mem_filter]
  simp only [same_keyO, Bool.not_and, Bool.not_not, Bool.or_eq_true, Bool.not_eq_true', decide_eq_true_eq]
  constructor
  · rintro (rfl | ⟨⟨h1, h2⟩, h3⟩)
    · exact ⟨ho, .inr rfl⟩
    · exact ⟨h1, .inl h2⟩
  · rintro ⟨h1, h2⟩
    by_cases he : s.1 = id
    · left
      have : (id, s.2) ∈ l := by rw [← he]; exact h1
      have h9 := asc_uniq ha this ho
      rw [← he, ← h9]
    · right
      rcases h2 with h2 | h2
      · exact ⟨⟨h1, h2⟩, he⟩
      · exact absurd h2 he
theorem visO_all {left : Lit → Bool} {l : List (Int × GO)} (h : ∀ kl, left kl = false) : visO left l = l := List.filter_eq_self.2 (fun x _ => by rw [h]; rfl)
theorem ranges_same {H : Type} {w w' : World} {P : Program} {k : TypeId} {R : Value → Option (DataW H × List MemPlace)} {b r n : Nat} {D : DataW H} {left : Lit → Bool} {cnt : Nat} (h : w.ranges P k R b r n D left cnt) (hb : w'.heap[b]? = w.heap[b]?) (hr : w'.heap[r]? = w.heap[r]?) : w'.ranges P k R b r n D left cnt := by
  obtain ⟨es, clock, since, seen, c0, h1, h2, h3, h4, h5, h6⟩ := h
  exact ⟨es, clock, since, seen, c0, hb.trans h1, h2, h3, h4, hr.trans h5, h6⟩
theorem graph_none (w W : World) (next c : Int) (hW : W = ((w.alloc (.map #[] 0)).alloc (.cells #[.int .i64 next, .map (some w.heap.size), .int .i64 c] 73 (0, 0))).drew) :
    GraphAt W ⟨w.heap.size + 1, w.heap.size, fun _ => 0, fun _ => 0⟩ ⟨next, c, []⟩ ∧ Below w.heap.size w W := by
  have hz : (w.alloc (.map #[] 0)).heap.size = w.heap.size + 1 := by simp
  refine ⟨⟨?_, ?_, fun x hx => (by cases hx), fun x hx => (by cases hx), fun x hx => (by cases hx), fun x hx => (by cases hx), fun x hx => (by cases hx)⟩, ?_⟩
  · rw [hW, ← hz]
    exact World.alloc_heap_new _ _
  · rw [hW]
    exact own_same ((World.ownsMap_made w _ _ _).alloc _) rfl
  · rw [hW]
    exact below_drew (below_alloc (below_alloc (Below.refl _ _) _) _)
theorem obj_copied (B : GB) (G : GS) (id : Int) (o : GO) (W4 : World) (ob lb : Nat) (hG : GraphAt W4 B G) (hn : G.at id = none) (hwf : (Lit.int .i64 id).wf = true) (hb : G.objs.length < bound) (hfo : ¬ foot B G ob) (hfl : ¬ foot B G lb)
    (hob : W4.heap[ob]? = some (.cells #[.int .i64 o.kind, .map (some lb), .int .i64 o.leads, .int .i64 o.held] 89 (0, 0))) (hlb : W4.ownsMap Tryz.prog 9 readL lb o.links.length (.map (o.links.map encL))) :
    ∃ W6, (Instr.mapUpdate 71 (.map (some B.mb)) (.int .i64 id) (.pointer (some ⟨ob, 0, none⟩))).run Tryz.prog W4 = .ok () W6 ∧
      GraphAt W6 (B.plus id ob lb) { G with objs := putO (id, o) G.objs } ∧ W4.grownBy W6 (some B.mb) := by
  obtain ⟨W6, hr, hm, hg⟩ := hG.objs.update (t := 71) (e := 75) (int_keyed Tryz.underlying3) Tryz.underlying71 (Nat.lt_trans hb (by decide)) (keyOf_int_mk Tryz.underlying3 hwf) (val := .pointer (some ⟨ob, 0, none⟩)) (d := .lit (.int .i64 ((ob : Nat) : Int))) (ps := []) rfl
  have hsame : ∀ k, k ≠ B.mb → k < W4.heap.size → W6.heap[k]? = W4.heap[k]? := fun k hk hl => hg.block k hl (fun e => hk (by injection e))
  refine ⟨W6, hr, ?_, hg⟩
  have hm1 : W6.ownsMap Tryz.prog 3 readP B.mb (G.objs.length + 1) (.map ((putO (id, o) G.objs).map (encO (B.plus id ob lb).ob))) := by
    rw [← put_plus B G id o ob lb hn]
    exact hm
  have hm2 := own_tight hm1
  rw [List.length_map] at hm2
  refine hG.plus hn hwf o ob lb hfo hfl ?_ hm2 (fun k _ hk hl => hsame k hk hl)
  unfold ObjAt
  rw [show (B.plus id ob lb).ob id = ob from upd_same _ _ _, show (B.plus id ob lb).lb id = lb from upd_same _ _ _]
  exact ⟨(hsame _ (fun e => hfo (.inr (.inl e))) (blk_lt hob)).trans hob, own_same hlb (hsame _ (fun e => hfl (.inr (.inl e))) hlb.lt)⟩
set_option maxHeartbeats 16000000 in
set_option maxRecDepth 100000 in
theorem copy_calls (B : GB) (G : GS) (w : World) (hG : GraphAt w B G) (ha : Asc G.objs) (hb : G.objs.length < bound) :
    Calls Tryz.prog 35 #[.pointer (some ⟨B.g, 0, none⟩)] w fun e w' => ∃ B' : GB, e = .returned (.pointer (some ⟨B'.g, 0, none⟩)) ∧ GraphAt w' B' G ∧ (∀ k, foot B' G k → w.heap.size ≤ k) ∧ Below w.heap.size w w' := by
  have HG := Aside0.mk hG
  have HA := Aside0.mk ha
  have HB := Aside0.mk hb
  have c0 := hG.c0
  have c2 := hG.c2
  clear hG ha hb
  go_enter Tryz.func35, Tryz.ntmps35
  go_upto_region 3 with (go_at_call 39; refine (good_calls B G _ HG.out).mono ?_; rintro e_ w0 ⟨rfl, h0⟩; obtain rfl := h0.symm)
  obtain ⟨W1, hW1⟩ : ∃ W1, W1 = ((w.alloc (.map #[] 0)).alloc (.cells #[.int .i64 G.next, .map (some w.heap.size), .int .i64 G.count] 73 (0, 0))).drew := ⟨_, rfl⟩
  have hmk : ∀ t w, (Instr.makeMap t none).run Tryz.prog w = .ok (.map (some w.heap.size)) (w.alloc (.map #[] 0)) := fun _ _ => rfl
  refine start_ (n := 12) (S := fun w' => w'.cell? ⟨B.g, 0, none⟩ = some (.int .i64 G.next) ∧ w'.cell? ⟨B.g, 2, none⟩ = some (.int .i64 G.count)) (ds := []) #[false, false, false, false, false, false, false, false, false, false, false, false] (by kernel_rfl) rfl rfl ⟨c0, c2⟩ (fun hHeld => ?_)
  refine pure_ (i := 0) (N := some 10) (v := ?_) (a' := ?_) (bb 12 1) rfl rfl (by kernel_rfl) (fun _ _ _ h => h) (Or.inl ⟨by rfl, ?_⟩) ?_ ?_
  rotate_left
  · intro w'
    go_simp
    with_reducible rfl
  rotate_left
  · simp only [Act.put, sa, sz, ss, i64_w, i32_w]
    rfl
  refine pure_ (i := 1) (N := some 11) (v := ?_) (a' := ?_) (bb 12 3) rfl rfl (by kernel_rfl) (fun _ _ _ h => h) (Or.inl ⟨by rfl, ?_⟩) ?_ ?_
  rotate_left
  · intro w'
    go_simp
    with_reducible rfl
  rotate_left
  · simp only [Act.put, sa, sz, ss, i64_w, i32_w]
    rfl
  refine pure_ (i := 2) (N := some 12) (v := ?_) (a' := ?_) (bb 12 7) rfl rfl (by kernel_rfl) (fun _ _ _ h => h) (Or.inl ⟨by rfl, ?_⟩) ?_ ?_
  rotate_left
  · intro w'
    go_simp
    with_reducible rfl
  rotate_left
  · simp only [Act.put, sa, sz, ss, i64_w, i32_w]
    rfl
  refine pure_ (i := 5) (N := some 15) (v := ?_) (a' := ?_) (bb 12 39) rfl rfl (by kernel_rfl) (fun _ _ _ h => h) (Or.inl ⟨by rfl, ?_⟩) ?_ ?_
  rotate_left
  · intro w'
    go_simp
    with_reducible rfl
  rotate_left
  · simp only [Act.put, sa, sz, ss, i64_w, i32_w]
    rfl
  refine pure_ (i := 6) (N := some 16) (v := ?_) (a' := ?_) (bb 12 103) rfl rfl (by kernel_rfl) (fun _ _ _ h => h) (Or.inl ⟨by rfl, ?_⟩) ?_ ?_
  rotate_left
  · intro w'
    go_simp
    with_reducible rfl
  rotate_left
  · simp only [Act.put, sa, sz, ss, i64_w, i32_w]
    rfl
  refine pure_ (i := 7) (N := some 17) (v := ?_) (a' := ?_) (bb 12 231) rfl rfl (by kernel_rfl) (fun _ _ _ h => h) (Or.inl ⟨by rfl, ?_⟩) ?_ ?_
  rotate_left
  · intro w'
    go_simp
    with_reducible rfl
  rotate_left
  · simp only [Act.put, sa, sz, ss, i64_w, i32_w]
    rfl
  refine take_ (i := 3) (N := some 13) (v := ?_) (a' := ?_) (bb 12 239) rfl rfl (by kernel_rfl) (fun _ _ _ h => h) (Or.inl ⟨by rfl, ?_⟩) hHeld ?_ ?_
  rotate_left
  · rintro w' ⟨s0, s1⟩
    go_simp
    with_reducible rfl
  rotate_left
  · simp only [Act.put, sa, sz, ss, i64_w, i32_w]
    rfl
  refine take_ (i := 8) (N := some 18) (v := ?_) (a' := ?_) (bb 12 495) rfl rfl (by kernel_rfl) (fun _ _ _ h => h) (Or.inl ⟨by rfl, ?_⟩) hHeld ?_ ?_
  rotate_left
  · rintro w' ⟨s0, s1⟩
    go_simp
    with_reducible rfl
  rotate_left
  · simp only [Act.put, sa, sz, ss, i64_w, i32_w]
    rfl
  refine one_ (i := 4) (N := some 14) (bb 12 511) rfl rfl (by kernel_rfl) (by decide) (fun K hK => ?_)
  refine value_ (w1 := ?_) (v := ?_) (by rfl) rfl ?_ ?_
  rotate_left 2
  · go_simp
    constructor
    · rfl
    · rfl
  refine hK.out _ _ ⟨((below_alloc (Below.refl _ _) _).cell (World.block_lt_of_cell? _ _ hHeld.1)).trans hHeld.1, ((below_alloc (Below.refl _ _) _).cell (World.block_lt_of_cell? _ _ hHeld.2)).trans hHeld.2⟩ (fun hHeld => ?_)
  clear hK K
  refine norm_ (a' := ?_) ?_ ?_
  rotate_left
  · show Act.put _ (some 14) _ = _
    simp only [Act.put, sa, sz, ss, i64_w, i32_w]
    rfl
  refine pure_ (i := 9) (N := some 19) (v := ?_) (a' := ?_) (bb 12 1023) rfl rfl (by kernel_rfl) (fun _ _ _ h => h) (Or.inl ⟨by rfl, ?_⟩) ?_ ?_
  rotate_left
  · intro w'
    go_simp
    with_reducible rfl
  rotate_left
  · simp only [Act.put, sa, sz, ss, i64_w, i32_w]
    rfl
  refine one_ (i := 10) (N := some 20) (bb 12 2047) rfl rfl (by kernel_rfl) (by decide) (fun K hK => ?_)
  refine value_ (w1 := ?_) (v := ?_) (by rfl) rfl ?_ ?_
  rotate_left 2
  · go_simp
    constructor
    · rfl
    · rfl
  refine hK.out _ _ ⟨((below_alloc (Below.refl _ _) _).cell (World.block_lt_of_cell? _ _ hHeld.1)).trans hHeld.1, ((below_alloc (Below.refl _ _) _).cell (World.block_lt_of_cell? _ _ hHeld.2)).trans hHeld.2⟩ (fun hHeld => ?_)
  clear hK K
  refine norm_ (a' := ?_) ?_ ?_
  rotate_left
  · show Act.put _ (some 20) _ = _
    simp only [Act.put, sa, sz, ss, i64_w, i32_w]
    rfl
  refine pure_ (i := 11) (N := some 3) (v := ?_) (a' := ?_) (bb 12 4095) rfl rfl (by kernel_rfl) (fun _ _ _ h => h) (Or.inl ⟨by rfl, ?_⟩) ?_ ?_
  rotate_left
  · intro w'
    go_simp
    with_reducible rfl
  rotate_left
  · simp only [Act.put, sa, sz, ss, i64_w, i32_w]
    rfl
  refine done_ (by kernel_rfl) ?_
  rw [← hW1]
  obtain ⟨hge, hbe⟩ := graph_none w W1 G.next G.count hW1
  obtain ⟨gx, hgx⟩ : ∃ gx, gx = w.heap.size + 1 := ⟨_, rfl⟩
  have hz1 : W1.heap.size = w.heap.size + 2 := by rw [hW1]; show ((w.alloc _).alloc _).heap.size = _; simp
  have hg1 := HG.out.below hbe
  have c1 := hg1.c1
  obtain ⟨w10, hrr, hrg0, hgr0, hsz0⟩ := hg1.objs.range (t := 71) (e := 75) (int_keyed Tryz.underlying3) Tryz.underlying71
  obtain ⟨rb, hrb⟩ : ∃ rb, rb = W1.heap.size := ⟨_, rfl⟩
  have hb10 : Below W1.heap.size W1 w10 := (Below.refl _ _).grown hgr0 (Nat.le_refl _) (fun k hk => by cases hk)
  rw [← hrb] at hrr hrg0
  have HGE10 : Aside0 (GraphAt w10 ⟨w.heap.size + 1, w.heap.size, fun _ => 0, fun _ => 0⟩ ⟨G.next, G.count, []⟩) := ⟨hge.below hb10⟩
  have HB10 : Aside0 (Below w.heap.size w w10) := ⟨hbe.trans (hb10.mono hbe.size)⟩
  have HRG0 := Aside0.mk hrg0
  have HMS : Aside0 (Maps.size (DataW.map (H := Unit) (G.objs.map (encO B.ob))) = G.objs.length) := ⟨by simp [Maps.size]⟩
  have HZ : Aside0 (gx = w.heap.size + 1 ∧ rb = w.heap.size + 2 ∧ rb < w10.heap.size) := ⟨hgx, by omega, hrg0.lt⟩
  have HH0 : Aside0 (visO (Maps.has (DataW.map (H := Unit) (G.objs.map (encO B.ob)))) G.objs = []) := ⟨by
    unfold visO
    refine List.filter_eq_nil_iff.2 (fun x hx => ?_)
    have : Maps.has (DataW.map (H := Unit) (G.objs.map (encO B.ob))) (keyO x.1) = true := by
      rw [Maps.has_eq]
      exact List.any_eq_true.2 ⟨encO B.ob x, List.mem_map.2 ⟨x, hx, rfl⟩, by show (keyO x.1).sameKey (keyO x.1) = true; rw [same_keyO]; simp⟩
    rw [this]
    simp⟩
  rw [← hgx]
  clear hW1 hmk hge hbe hz1 hg1 hrg0 hgr0 hsz0 hb10 hHeld c0 c2 hgx hrb
  go_upto_region 5 with (fail)
  clear hrr c1
  go_loopg [] G.objs.length (fun kq W => ∃ (left : Lit → Bool) (cnt : Nat) (B' : GB), Aside0 (W.ranges Tryz.prog 3 readP B.mb rb G.objs.length (.map (G.objs.map (encO B.ob))) left cnt) ∧ Aside0 (cnt ≤ kq) ∧ Aside0 (Below w.heap.size w W) ∧ Aside0 (B'.g = gx) ∧ Aside0 (GraphAt W B' ⟨G.next, G.count, visO left G.objs⟩) ∧ Aside0 (∀ k, foot B' ⟨G.next, G.count, visO left G.objs⟩ k → w.heap.size ≤ k ∧ k ≠ rb))
  case atStart =>
    refine ⟨_, _, ⟨w.heap.size + 1, w.heap.size, fun _ => 0, fun _ => 0⟩, HRG0, ⟨by rw [HMS.out]; exact Nat.le_refl _⟩, HB10, ⟨HZ.out.1.symm⟩, ⟨by rw [HH0.out]; exact HGE10.out⟩, ⟨fun k hk => ?_⟩⟩
    rw [HH0.out] at hk
    have := HZ.out
    rcases hk with rfl | rfl | ⟨x, hx, -⟩
    · exact ⟨by simp, by show w.heap.size + 1 ≠ rb; omega⟩
    · exact ⟨by simp, by show w.heap.size ≠ rb; omega⟩
    · cases hx
  case round =>
    obtain ⟨left, cnt, B', HR, HC, HBR, HBG, HG', HFT⟩ := hrel
    rcases HR.out.next (int_keyed Tryz.underlying3) 0 with ⟨h0, hall, hrun⟩ | ⟨key, v, kl, y, w', cnt', hkey, hleft, hv, hat, hrun, hrg', hlt', hgr, hsz, hen⟩
    · have hnx : ∀ ty, (Instr.next (.pointer (some ⟨rb, 0, none⟩)) false ty).run Tryz.prog wr = .ok (.tuple #[.bool false]) wr := fun _ => hrun
      have HV : Aside0 (visO left G.objs = G.objs) := ⟨visO_all hall⟩
      clear hrun
      go_wp2
      go_ret
      have hgf := HG'.out
      have hff := HFT.out
      rw [HV.out] at hgf hff
      exact ⟨B', by rw [HBG.out]; rfl, hgf, fun k hk => (hff k hk).1, HBR.out⟩
    · obtain ⟨id, rfl, rfl, hwf⟩ := Maps.keyOf_int_inv Tryz.underlying3 hkey
      have hat' : ∀ zd, (match G.at id with | some _ => DataW.lit (Lit.int .i64 (B.ob id : Int)) | none => zd) = y.1 := fun zd => (atKey_O B.ob G id zd).symm.trans (hat zd)
      cases ho : G.at id with
      | none =>
        rw [ho] at hat'
        have h1 := hat' .nil
        have h2 := hat' (.lit (.int .i64 0))
        rw [← h1] at h2
        cases h2
      | some o =>
        rw [ho] at hat'
        obtain ⟨y1, y2⟩ := y
        have h1 := hat' .nil
        simp only at h1
        subst h1
        obtain rfl := readP_inv hv
        have hom := at_mem ho
        have hrbw : w.heap.size ≤ rb := by have := HZ.out; omega
        have hbw' : Below w.heap.size w w' := HBR.out.grown hgr HBR.out.size (fun k hk => by cases hk; exact hrbw)
        have hgw : GraphAt w' B G := HG.out.below hbw'
        have hobj := hgw.obj ho
        have HG1 : Aside0 (GraphAt w' B' ⟨G.next, G.count, visO left G.objs⟩) := ⟨HG'.out.step (fun k hk hl => hgr.block k hl (fun e => by injection e with e; exact (HFT.out k hk).2 e))⟩
        have hnx : ∀ ty, (Instr.next (.pointer (some ⟨rb, 0, none⟩)) false ty).run Tryz.prog wr = .ok (.tuple #[.bool true, .int .i64 id, .pointer (some ⟨B.ob id, 0, none⟩)]) w' := fun _ => hrun
        have o0 := hobj.c0
        have o1 := hobj.c1
        have o2 := hobj.c2
        have o3 := hobj.c3
        simp only at o0 o1 o2 o3
        obtain ⟨W2, hW2⟩ : ∃ W2, W2 = w'.alloc (.cells #[.int .i64 o.kind, .map (some (B.lb id)), .int .i64 o.leads, .int .i64 o.held] 89 (0, 0)) := ⟨_, rfl⟩
        have hb2 : Below w'.heap.size w' W2 := by rw [hW2]; exact below_alloc (Below.refl _ _) _
        have ho2 : W2.heap[w'.heap.size]? = some (.cells #[.int .i64 o.kind, .map (some (B.lb id)), .int .i64 o.leads, .int .i64 o.held] 89 (0, 0)) := by rw [hW2]; exact World.alloc_heap_new _ _
        have hz2 : W2.heap.size = w'.heap.size + 1 := by rw [hW2]; simp
        obtain ⟨ob, hob⟩ : ∃ ob, ob = w'.heap.size := ⟨_, rfl⟩
        rw [← hob] at ho2
        have o1' : W2.cell? ⟨B.ob id, 1, none⟩ = some (.map (some (B.lb id))) := (hb2.cell (World.block_lt_of_cell? _ _ o1)).trans o1
        have HRG' := Aside0.mk hrg'
        have HLT' := Aside0.mk hlt'
        have HBW' := Aside0.mk hbw'
        have HOM := Aside0.mk hom
        have HLF := Aside0.mk hleft
        have HWF := Aside0.mk hwf
        have HB2 := Aside0.mk hb2
        have HO2 := Aside0.mk ho2
        have HZ2 := Aside0.mk hz2
        have HW2 := Aside0.mk hW2
        have HOB := Aside0.mk hob
        have HLB := Aside0.mk (own_same hobj.2 (hb2.block _ hobj.2.lt))
        clear hrun hkey hleft hv hat hat' hrg' hlt' hgr hsz hgw ho hom hobj hbw' hrbw hwf hb2 ho2 hz2 hW2 hob
        go_upto_region 8 with (fail)
        rw [← HW2.out, ← HOB.out]
        clear hnx hen o0 o1 o2 o3
        go_upto_region 9 with (go_at_call 63; refine (clone_calls (B.lb id) W2 HLB.out).mono ?_; rintro e_ w3 ⟨rfl, hm3, hb3⟩; have hx3 := (hb3.block ob (blk_lt HO2.out)).trans HO2.out; have f3 : w3.frozen? ⟨ob, 1, none⟩ = false := blk_frozen hx3 1; have d3 : w3.cell? ⟨ob, 1, none⟩ = some (.map (some (B.lb id))) := (blk_cell hx3 1).trans rfl; have HM3 := Aside0.mk hm3; have HB3 := Aside0.mk hb3; have HX3 := Aside0.mk hx3; clear hm3 hb3 hx3)
        obtain ⟨W4, hW4⟩ : ∃ W4, W4 = w3.setCell ⟨ob, 1, none⟩ (.map (some W2.heap.size)) := ⟨_, rfl⟩
        rw [← hW4]
        obtain ⟨lb, hlb⟩ : ∃ lb, lb = W2.heap.size := ⟨_, rfl⟩
        have hob4 : W4.heap[ob]? = some (.cells #[.int .i64 o.kind, .map (some lb), .int .i64 o.leads, .int .i64 o.held] 89 (0, 0)) := by rw [hW4, hlb]; exact (blk_set HX3.out 1 _).trans rfl
        have hne : lb ≠ ob := by have := HZ2.out; have := HOB.out; omega
        have hlb4 : W4.ownsMap Tryz.prog 9 readL lb o.links.length (.map (o.links.map encL)) := by rw [hW4, hlb]; exact own_same HM3.out (Below.heap_setCell _ _ _ _ (by rw [← hlb]; exact hne))
        have hb4 : Below w'.heap.size w' W4 := by rw [hW4]; exact (HB2.out.trans (HB3.out.mono HB2.out.size)).setCell (by rw [HOB.out]; exact Nat.le_refl _) _
        have hg4 := HG1.out.below hb4
        have hlt1 : ∀ k, foot B' ⟨G.next, G.count, visO left G.objs⟩ k → k < w'.heap.size := fun k hk => HG1.out.foot_lt hk
        obtain ⟨W6, hr6, hg6, hgr6⟩ := obj_copied B' ⟨G.next, G.count, visO left G.objs⟩ id o W4 ob lb hg4 (visO_none HLF.out _ _) HWF.out (Nat.lt_of_le_of_lt (List.length_filter_le _ _) HB.out) (fun hf => by have := hlt1 _ hf; have := HOB.out; omega) (fun hf => by have := hlt1 _ hf; have := HZ2.out; omega) hob4 hlb4
        have c1 : W4.cell? ⟨gx, 1, none⟩ = some (.map (some B'.mb)) := by rw [← HBG.out]; exact hg4.c1
        have hmb' := HFT.out B'.mb (.inr (.inl rfl))
        have hrbl : rb < w'.heap.size := HRG'.out.lt
        have hBmb : B.mb < w.heap.size := HG.out.objs.lt
        have hbz := HBW'.out.size
        have HBW6 : Aside0 (Below w.heap.size w W6) := ⟨(HBW'.out.trans (hb4.mono hbz)).grown hgr6 (Nat.le_trans hbz hb4.size) (fun k hk => by cases hk; exact hmb'.1)⟩
        have HRG6 : Aside0 (W6.ranges Tryz.prog 3 readP B.mb rb G.objs.length (.map (G.objs.map (encO B.ob))) (fun x => left x && !x.sameKey (keyO id)) cnt') := ⟨ranges_same HRG'.out
          ((hgr6.block B.mb (by have := hb4.size; omega) (fun e => by injection e with e; omega)).trans (hb4.block _ (by omega)))
          ((hgr6.block rb (by have := hb4.size; omega) (fun e => by injection e with e; exact hmb'.2 e.symm)).trans (hb4.block _ hrbl))⟩
        have HG6 : Aside0 (GraphAt W6 (B'.plus id ob lb) ⟨G.next, G.count, visO (fun x => left x && !x.sameKey (keyO id)) G.objs⟩) := ⟨by
          have h9 := hg6
          simp only at h9
          rw [visO_put HA.out HOM.out HLF.out] at h9
          exact h9⟩
        have HF6 : Aside0 (∀ k, foot (B'.plus id ob lb) ⟨G.next, G.count, visO (fun x => left x && !x.sameKey (keyO id)) G.objs⟩ k → w.heap.size ≤ k ∧ k ≠ rb) := ⟨fun k hk => by
          rw [← visO_put HA.out HOM.out HLF.out] at hk
          rcases foot_plus (G := ⟨G.next, G.count, visO left G.objs⟩) hk with h | rfl | rfl
          · exact HFT.out k h
          · have := HOB.out; omega
          · have := HZ2.out; omega⟩
        have HBG6 : Aside0 ((B'.plus id ob lb).g = gx) := ⟨HBG.out⟩
        clear hW4 hlb hob4 hne hlb4 hb4 hg4 hlt1 hg6 hgr6 hmb' hrbl hBmb hbz f3 d3 o1'
        go_wp2
        go_roundg (gk - 1)
        case measure => have := HC.out; have := HLT'.out; omega
        case rel => exact ⟨_, cnt', B'.plus id ob lb, HRG6, ⟨by have := HC.out; have := HLT'.out; omega⟩, HBW6, HBG6, HG6, HF6⟩
end
end Go.Proofs.YthifdofdoeaemaaGreatDoor.Wk
end
