-- Texts that the row GraphLoops leans on, joined by wip/tools/mkclaim.py: GAdd, GCut, GKeys, GSweep, GDrop, GApp, GLoop, GUnlink, GMine, GInts, GLives, GPLoops, GLawLoops
import Derived.Test.YthifdofdoeaemaaGreatDoorCGraphLoops1
import Derived.Test.YthifdofdoeaemaaGreatDoorProg
import Derived.Below
import Derived.Deep.Draws
import Derived.Deep.AppendLies
import Derived.Maps.AppendAt
import Derived.OwnWalk
import Derived.Laws.BytesArg
import Derived.Laws.MakeOwn
import Derived.Laws.OwnMore
import Derived.Deep.OwnRows
import Derived.Tactics
import Derived.Lib.ConvBytes
import Derived.Laws.Slices
import Derived.WalkKit
import Derived.KernelRfl
import Derived.RowKit3
import Derived.Deep.LoopGhost
import Derived.Deep.QuietTactic
import Derived.BigQuiet
import Derived.WideLaws
import Derived.Deep.DeepCutAuto
import Derived.Deep.CutBlock
import Derived.Deep.RegionHeld3
import Derived.Laws.Rows
import Derived.Lib.AppendStr
import Derived.ArgAppend
import Derived.Laws.IdiomCopy
import Derived.OrdersHeld
import Derived.Laws.BitsLemmas
import Derived.RowKit
import Derived.WalkSpells
import Derived.Sort.LoopGhostIn
import Derived.Sort.CutIn
import Derived.Shelf.Abstract
import Derived.Shelf.RegionOpen
import Derived.OwnWalkIn
import Derived.TacticsInMore
import Derived.LoopNIn
import Derived.LoopIn
import Derived.Deep.Onto
import Derived.Maps.Ext
import Derived.Sort.OwnSortedInts
section
namespace Go.Proofs.YthifdofdoeaemaaGreatDoor.Wk
open Go.RowKit Go.Proofs.YthifdofdoeaemaaGreatDoorW.PrintWords Go.Proofs.YthifdofdoeaemaaGreatDoorW.PrintLast Go.Proofs.YthifdofdoeaemaaGreatDoorW.PrintMore
attribute [local go_sem] max2_int min2_int max_two min_two max_three min_three max_four min_four
set_option linter.unusedVariables false
set_option linter.unusedSimpArgs false
section
open Go.RowKit Go.Lib Go.Maps Go.Proofs.YthifdofdoeaemaaGreatDoorQ
attribute [local go_sem] Oper.semAt_some
theorem putG_keys {G G2 : GS} {id : Int} {x : Lk} (h : putG G id x = some G2) {y : Int × GO} (hy : y ∈ G2.objs) : ∃ z ∈ G.objs, y.1 = z.1 := by
  unfold putG at h
  split at h
  · cases h
  · split at h
    · simp only at h
      split at h
      · split at h
        · cases h
        · split at h
          · cases h
            simp only at hy
            obtain ⟨a, ha, e⟩ := key_setO hy
            obtain ⟨b, hb, e2⟩ := key_setO ha
            exact ⟨b, hb, e.trans e2⟩
          · cases h
      · cases h
        simp only at hy
        exact key_setO hy
    · cases h
theorem foot_keys {B : GB} {G G2 : GS} (h : ∀ y ∈ G2.objs, ∃ z ∈ G.objs, y.1 = z.1) {k : Nat} (hk : foot B G2 k) : foot B G k := by
  rcases hk with hk | hk | ⟨x, hx, hk⟩
  · exact .inl hk
  · exact .inr (.inl hk)
  · obtain ⟨z, hz, e⟩ := h x hx
    rw [e] at hk
    exact .inr (.inr ⟨z, hz, hk⟩)
theorem foot_plus {B : GB} {G : GS} {n c id : Int} {o : GO} {ob lb k : Nat} (h : foot (B.plus id ob lb) (GS.mk n c (putO (id, o) G.objs)) k) : foot B G k ∨ k = ob ∨ k = lb := by
  rcases h with h | h | ⟨x, hx, h⟩
  · exact .inl (.inl h)
  · exact .inl (.inr (.inl h))
  · rcases putO_new hx with rfl | ⟨hx, hne⟩
    · rw [show (B.plus id ob lb).ob id = ob from upd_same _ _ _, show (B.plus id ob lb).lb id = lb from upd_same _ _ _] at h
      exact .inr h
    · rw [GB.plus_ob hne, GB.plus_lb hne] at h
      exact .inl (.inr (.inr ⟨x, hx, h⟩))
theorem add_lays (B : GB) (G : GS) (kind : Int) (w W4 : World) (hG : GraphAt w B G) (hn : G.at G.next = none) (h1 : 1 ≤ G.next) (h2 : G.next < 4611686018427387904) (hb : G.objs.length < bound)
    (hw4 : W4 = w.setCell ⟨B.g, 0, none⟩ (.int .i64 (G.next + 1))) :
    ∃ W6, (Instr.mapUpdate 71 (.map (some B.mb)) (.int .i64 G.next) (.pointer (some ⟨W4.heap.size + 1, 0, none⟩))).run Tryz.prog (madeW kind W4.drew) = .ok () W6 ∧
      GraphAt W6 (B.plus G.next (W4.heap.size + 1) W4.heap.size) { G with next := G.next + 1, objs := putO (G.next, newO kind) G.objs } ∧ SameOn (fun k => ¬ foot B G k) w W6 := by
  have hG4 : GraphAt W4 B { G with next := G.next + 1, count := G.count } := hG.turnG _ _ (by rw [hw4]; exact (blk_set hG.cell 0 _).trans rfl) (fun k _ hk _ => by rw [hw4]; exact Below.heap_setCell _ _ _ _ hk)
  have hs4 : SameOn (fun k => ¬ foot B G k) w W4 := by rw [hw4]; exact SameOn.setCell _ _ _ (fun hn => hn (.inl rfl))
  have hb5 : Below W4.heap.size W4 (madeW kind W4.drew) := (below_drew (Below.refl _ _)).trans (madeW_below kind W4.drew)
  have hG5 := hG4.below hb5
  have hwf : (Lit.int .i64 G.next).wf = true := by
    have e1 : IntKind.i64.min = -9223372036854775808 := by decide
    have e2 : IntKind.i64.max = 9223372036854775807 := by decide
    show (decide (IntKind.i64.min ≤ G.next) && decide (G.next ≤ IntKind.i64.max)) = true
    rw [e1, e2, decide_eq_true (by omega), decide_eq_true (by omega)]
    rfl
  have hz5 : (madeW kind W4.drew).heap.size = W4.heap.size + 2 := by simp [madeW]
  obtain ⟨W6, hr, hm, hg⟩ := hG5.objs.update (t := 71) (e := 75) (int_keyed Tryz.underlying3) Tryz.underlying71 (Nat.lt_trans hb (by decide)) (keyOf_int_mk Tryz.underlying3 hwf) (val := .pointer (some ⟨W4.heap.size + 1, 0, none⟩)) (d := .lit (.int .i64 ((W4.heap.size + 1 : Nat) : Int))) (ps := []) rfl
  have hmb : B.mb < W4.heap.size := hG4.objs.lt
  have hsame : ∀ k, k ≠ B.mb → k < (madeW kind W4.drew).heap.size → W6.heap[k]? = (madeW kind W4.drew).heap[k]? := fun k hk hl => hg.block k hl (fun e => hk (by injection e))
  refine ⟨W6, hr, ?_, ?_⟩
  · have hm1 : W6.ownsMap Tryz.prog 3 readP B.mb (G.objs.length + 1) (.map ((putO (G.next, newO kind) G.objs).map (encO (B.plus G.next (W4.heap.size + 1) W4.heap.size).ob))) := by
      rw [← put_plus B G G.next (newO kind) (W4.heap.size + 1) W4.heap.size hn]
      exact hm
    have hm2 := own_tight hm1
    rw [List.length_map] at hm2
    refine hG5.plus (G := GS.mk (G.next + 1) G.count G.objs) hn hwf (newO kind) (W4.heap.size + 1) W4.heap.size (fun hf => by have := hG4.foot_lt hf; omega) (fun hf => by have := hG4.foot_lt hf; omega) ?_ hm2 (fun k _ hk hl => hsame k hk hl)
    unfold ObjAt
    rw [show (B.plus G.next (W4.heap.size + 1) W4.heap.size).ob G.next = W4.heap.size + 1 from upd_same _ _ _, show (B.plus G.next (W4.heap.size + 1) W4.heap.size).lb G.next = W4.heap.size from upd_same _ _ _]
    exact ⟨(hsame _ (by omega) (by omega)).trans (madeW_ob kind W4.drew), own_same (madeW_lb kind W4.drew) (hsame _ (by omega) (by show W4.heap.size < _; omega))⟩
  · refine hs4.trans ((SameOn.of_below hb5).trans ⟨hg.size, fun k hk hl => hsame k (fun e => hk (.inr (.inl e))) hl, hg.os, hg.tape, hg.output⟩)
set_option maxHeartbeats 8000000 in
set_option maxRecDepth 100000 in
theorem add_calls (B : GB) (G : GS) (p : ByteArray) (kind : Int) (w : World) (hl : Lay w) (hG : GraphAt w B G) (id e : Int) (G2 : GS) (h : addG G p kind = some (id, e, G2)) :
    Calls Tryz.prog 16 #[.pointer (some ⟨B.g, 0, none⟩), .string p, .int .i64 kind] w fun ev w' => ev = .returned (.tuple #[.int .i64 id, .int .i64 e]) ∧
      ∃ B2, B2.g = B.g ∧ GraphAt w' B2 G2 ∧ (∀ k, foot B2 G2 k → foot B G k ∨ w.heap.size ≤ k) ∧ SameOn (fun k => ¬ foot B G k) w w' := by
  have HL := Aside0.mk hl
  have HG := Aside0.mk hG
  unfold addG at h
  clear hl hG
  by_cases hk : kind = 1 ∨ kind = 2
  · rw [if_pos hk] at h
    cases hr : roomG G p with
    | none => rw [hr] at h; cases h
    | some r =>
      obtain ⟨gid, nm, re⟩ := r
      rw [hr] at h
      simp only at h
      have HR := Aside0.mk hr
      by_cases hre : re = 0
      · subst hre
        by_cases hlen : G.objs.length = 128
        · have hif : (if (0 : Int) = 0 ∧ G.objs.length = 128 then (7 : Int) else 0) = 7 := if_pos ⟨rfl, hlen⟩
          rw [hif, if_neg (show ¬ (7 : Int) = 0 by decide)] at h
          obtain ⟨rfl, rfl, rfl⟩ : (0 : Int) = id ∧ (7 : Int) = e ∧ G = G2 := by simpa using h
          have HLEN := Aside0.mk hlen
          clear h hr hlen
          rcases hk with rfl | rfl <;> (
            go_enter Tryz.func16, Tryz.ntmps16
            go_wp2_with (first
              | (go_at_call 39; refine (good_calls B G _ HG.out).mono ?_; rintro e_ w1 ⟨rfl, rfl⟩)
              | (go_at_call 41; refine (room_calls B G p _ HL.out HG.out gid 0 nm HR.out).mono ?_; rintro e_ w3 ⟨⟨v3, n3, rfl, hv3⟩, hw3⟩; obtain ⟨rfl, rfl⟩ := hv3 rfl; have HW3 := Aside0.mk hw3; have HG3 := Aside0.mk (HG.out.below hw3); clear hw3 hv3; have c1 := HG3.out.c1; have hln : ∀ ty, (Builtin.len_ #[71] ty #[.map (some B.mb)]).run Tryz.prog w3 = .ok (.int .i64 128) w3 := (fun ty => by have := HG3.out.objs.len Tryz.underlying71 ty; rwa [show (Maps.size (DataW.map (List.map (encO B.ob) G.objs))) = 128 by simp [Maps.size, HLEN.out]] at this)))
            go_ret2
            exact ⟨rfl, B, rfl, HG3.out, fun k hk => .inl hk, SameOn.of_below HW3.out⟩)
        · have hif : (if (0 : Int) = 0 ∧ G.objs.length = 128 then (7 : Int) else 0) = 0 := if_neg (fun q => hlen q.2)
          rw [hif, if_pos rfl] at h
          by_cases hc : (G.at G.next).isSome = true ∨ bound ≤ G.objs.length ∨ G.next < 1 ∨ 4611686018427387904 ≤ G.next
          · rw [if_pos hc] at h; cases h
          rw [if_neg hc] at h
          cases hp : putG { G with next := G.next + 1, objs := putO (G.next, newO kind) G.objs } gid (nm, G.next, ⟨#[]⟩) with
          | none => rw [hp] at h; cases h
          | some G3 =>
            rw [hp] at h
            obtain ⟨rfl, rfl, rfl⟩ : G.next = id ∧ (0 : Int) = e ∧ G3 = G2 := by simpa using h
            obtain ⟨hnm, o, ho, hlk⟩ := roomG_at hr
            have hn : G.at G.next = none := by
              cases hq : G.at G.next with
              | none => rfl
              | some _ => exact absurd (.inl (by rw [hq]; rfl)) hc
            have hgn : gid ≠ G.next := by rintro rfl; rw [hn] at ho; cases ho
            have h128 : ((G.objs.length : Int) == 128) = false := by simpa using (by omega : ¬ (G.objs.length : Int) = 128)
            have hwn : wrap64 (G.next + 1) = G.next + 1 := by unfold wrap64; omega
            have HN := Aside0.mk hn
            have HC := Aside0.mk hc
            have HP := Aside0.mk hp
            have HO := Aside0.mk ho
            have HNM := Aside0.mk hnm
            clear h hr hlen hn hc hp ho hlk hnm
            have hkk := hk
            rcases hkk with rfl | rfl
            · go_enter Tryz.func16, Tryz.ntmps16
              go_upto_region 12 with (first
                | (go_at_call 39; refine (good_calls B G _ HG.out).mono ?_; rintro e_ w1 ⟨rfl, rfl⟩)
                | (go_at_call 41; refine (room_calls B G p _ HL.out HG.out gid 0 nm HR.out).mono ?_; rintro e_ w3 ⟨⟨v3, n3, rfl, hv3⟩, hw3⟩; obtain ⟨rfl, rfl⟩ := hv3 rfl; have HW3 := Aside0.mk hw3; have HG3 := Aside0.mk (HG.out.below hw3); clear hw3 hv3; have c1 := HG3.out.c1; have c0 := HG3.out.c0; have f0 := blk_frozen HG3.out.cell 0; have hln : ∀ ty, (Builtin.len_ #[71] ty #[.map (some B.mb)]).run Tryz.prog w3 = .ok (.int .i64 (G.objs.length : Int)) w3 := (fun ty => by have := HG3.out.objs.len Tryz.underlying71 ty; rwa [show (Maps.size (DataW.map (List.map (encO B.ob) G.objs))) = G.objs.length by simp [Maps.size]] at this)))
              obtain ⟨W4, hw4⟩ : ∃ W4, W4 = w3.setCell ⟨B.g, 0, none⟩ (.int .i64 (G.next + 1)) := ⟨_, rfl⟩
              rw [← hw4]
              obtain ⟨W6, hr6, hg6, hs6⟩ := add_lays B G 1 w3 W4 HG3.out HN.out (by have := HC.out; omega) (by have := HC.out; omega) (by have := HC.out; omega) hw4
              have g1 : W4.drew.cell? ⟨B.g, 1, none⟩ = some (.map (some B.mb)) := by rw [hw4]; exact (blk_cell (blk_set HG3.out.cell 0 _) 1).trans rfl
              have g2 : (madeW 1 W4.drew).cell? ⟨B.g, 1, none⟩ = some (.map (some B.mb)) := by
                rw [hw4]
                exact (blk_cell ((madeW_below 1 _).block _ (by simpa using blk_lt HG3.out.cell) |>.trans (blk_set HG3.out.cell 0 _)) 1).trans rfl
              have HR6 := Aside0.mk hr6
              have HG6 := Aside0.mk hg6
              have HS6 := Aside0.mk hs6
              have HG2 := Aside0.mk g2
              have HW4 := Aside0.mk hw4
              clear hr6 hg6 hs6 g2 c1 c0 f0 hln hw4
              refine start_ (n := 8) (S := fun W' => W'.cell? ⟨B.g, 1, none⟩ = some (.map (some B.mb))) (ds := [7]) #[false, false, false, false, false, false, false, false] (by kernel_rfl) rfl rfl g1 (fun hHeld => ?_)
              refine pure_ (i := 0) (N := some 54) (v := ?_) (a' := ?_) #[true, false, false, false, false, false, false, false] rfl rfl (by kernel_rfl) (fun _ _ _ h => h) (Or.inl ⟨by rfl, ?_⟩) ?_ ?_
              rotate_left
              · intro w'
                go_simp
                with_reducible rfl
              rotate_left
              · simp only [Act.put, List.setIfInBounds_toArray, List.set_cons_zero, List.set_cons_succ, i64_w, i32_w]
                rfl
              refine pure_ (i := 1) (N := some 55) (v := ?_) (a' := ?_) #[true, true, false, false, false, false, false, false] rfl rfl (by kernel_rfl) (fun _ _ _ h => h) (Or.inl ⟨by rfl, ?_⟩) ?_ ?_
              rotate_left
              · intro w'
                go_simp
                with_reducible rfl
              rotate_left
              · simp only [Act.put, List.setIfInBounds_toArray, List.set_cons_zero, List.set_cons_succ, i64_w, i32_w]
                rfl
              refine pure_ (i := 2) (N := some 56) (v := ?_) (a' := ?_) #[true, true, true, false, false, false, false, false] rfl rfl (by kernel_rfl) (fun _ _ _ h => h) (Or.inl ⟨by rfl, ?_⟩) ?_ ?_
              rotate_left
              · intro w'
                go_simp
                with_reducible rfl
              rotate_left
              · simp only [Act.put, List.setIfInBounds_toArray, List.set_cons_zero, List.set_cons_succ, i64_w, i32_w]
                rfl
              refine take_ (i := 3) (N := some 57) (v := ?_) (a' := ?_) #[true, true, true, true, false, false, false, false] rfl rfl (by kernel_rfl) (fun _ _ _ h => h) (Or.inl ⟨by rfl, ?_⟩) hHeld ?_ ?_
              rotate_left
              · rintro w' s1_
                go_simp
                with_reducible rfl
              rotate_left
              · simp only [Act.put, List.setIfInBounds_toArray, List.set_cons_zero, List.set_cons_succ, i64_w, i32_w]
                rfl
              refine pure_ (i := 4) (N := some 58) (v := ?_) (a' := ?_) #[true, true, true, true, true, false, false, false] rfl rfl (by kernel_rfl) (fun _ _ _ h => h) (Or.inl ⟨by rfl, ?_⟩) ?_ ?_
              rotate_left
              · intro w'
                go_simp
                with_reducible rfl
              rotate_left
              · simp only [Act.put, List.setIfInBounds_toArray, List.set_cons_zero, List.set_cons_succ, i64_w, i32_w]
                rfl
              refine pure_ (i := 5) (N := some 59) (v := ?_) (a' := ?_) #[true, true, true, true, true, true, false, false] rfl rfl (by kernel_rfl) (fun _ _ _ h => h) (Or.inl ⟨by rfl, ?_⟩) ?_ ?_
              rotate_left
              · intro w'
                go_simp
                with_reducible rfl
              rotate_left
              · simp only [Act.put, List.setIfInBounds_toArray, List.set_cons_zero, List.set_cons_succ, i64_w, i32_w]
                rfl
              clear g1
              refine one_ (i := 6) (N := some 60) #[true, true, true, true, true, true, true, false] rfl rfl (by kernel_rfl) (by decide) (fun K hK => ?_)
              skip
              refine goes_ Tryz.func38 (by kernel_rfl) rfl #[.int .i64 1] (by rfl) rfl rfl (by (simp only [List.map_toArray, List.map_cons, List.map_nil]); rfl) ?_
              refine (made_calls 1 _).mono ?_
              rintro e_ WL1 ⟨rfl, rfl⟩
              refine ⟨_, rfl, ?_⟩
              refine hK.out _ _ HG2.out (fun hHeld => ?_)
              clear hK K
              refine norm_ (a' := ?_) ?_ ?_
              rotate_left
              · show Act.put _ (some 60) _ = _
                simp only [Act.put, List.setIfInBounds_toArray, List.set_cons_zero, List.set_cons_succ, i64_w, i32_w]
                rfl
              refine last_ (i := 7) (N := none) #[true, true, true, true, true, true, true, true] rfl rfl (by kernel_rfl) (by decide) (fun K hK => ?_)
              refine step_update rfl (.tmp 57) (.tmp 58) (.tmp 60) 71 rfl rfl rfl rfl HR6.out ?_
              refine hK.out _ _ ?_
              clear hK K
              refine done_ (by kernel_rfl) ?_
              have hat : (GS.mk (G.next + 1) G.count (putO (G.next, newO 1) G.objs)).at gid = some o := by rw [at_putO, if_neg hgn]; exact HO.out
              have hcp := put_calls (B.plus G.next (W4.heap.size + 1) W4.heap.size) _ gid o (n3, G.next, ⟨#[]⟩) W6 HG6.out hat HNM.out G3 HP.out
              rw [GB.plus_ob hgn] at hcp
              have HCP := Aside0.mk hcp
              clear hcp hat
              go_wp2_with (go_at_call 42; refine HCP.out.mono ?_; rintro e_ w7 ⟨rfl, hg7, hs7⟩; have HG7 := Aside0.mk hg7; have HS7 := Aside0.mk hs7; clear hg7 hs7)
              go_ret2
              have hz : w1.heap.size ≤ W4.heap.size := by rw [HW4.out]; simpa using HW3.out.size
              have hfn : ∀ k, foot (B.plus G.next (W4.heap.size + 1) W4.heap.size) (GS.mk (G.next + 1) G.count (putO (G.next, newO 1) G.objs)) k → foot B G k ∨ w1.heap.size ≤ k := by
                intro k hk
                rcases foot_plus hk with h | rfl | rfl
                · exact .inl h
                · exact .inr (by omega)
                · exact .inr hz
              refine ⟨rfl, B.plus G.next (W4.heap.size + 1) W4.heap.size, rfl, HG7.out, fun k hk => hfn k (foot_keys (fun y hy => putG_keys HP.out hy) hk), ?_⟩
              have hs36 := (SameOn.of_below HW3.out).trans HS6.out
              exact ⟨Nat.le_trans hs36.size HS7.out.size, fun k hk hl => (HS7.out.same k (fun hf => (hfn k hf).elim hk (fun h => by omega)) (Nat.lt_of_lt_of_le hl hs36.size)).trans (hs36.same k hk hl), HS7.out.os.trans hs36.os, HS7.out.tape.trans hs36.tape, HS7.out.output.trans hs36.output⟩
            · go_enter Tryz.func16, Tryz.ntmps16
              go_upto_region 12 with (first
                | (go_at_call 39; refine (good_calls B G _ HG.out).mono ?_; rintro e_ w1 ⟨rfl, rfl⟩)
                | (go_at_call 41; refine (room_calls B G p _ HL.out HG.out gid 0 nm HR.out).mono ?_; rintro e_ w3 ⟨⟨v3, n3, rfl, hv3⟩, hw3⟩; obtain ⟨rfl, rfl⟩ := hv3 rfl; have HW3 := Aside0.mk hw3; have HG3 := Aside0.mk (HG.out.below hw3); clear hw3 hv3; have c1 := HG3.out.c1; have c0 := HG3.out.c0; have f0 := blk_frozen HG3.out.cell 0; have hln : ∀ ty, (Builtin.len_ #[71] ty #[.map (some B.mb)]).run Tryz.prog w3 = .ok (.int .i64 (G.objs.length : Int)) w3 := (fun ty => by have := HG3.out.objs.len Tryz.underlying71 ty; rwa [show (Maps.size (DataW.map (List.map (encO B.ob) G.objs))) = G.objs.length by simp [Maps.size]] at this)))
              obtain ⟨W4, hw4⟩ : ∃ W4, W4 = w3.setCell ⟨B.g, 0, none⟩ (.int .i64 (G.next + 1)) := ⟨_, rfl⟩
              rw [← hw4]
              obtain ⟨W6, hr6, hg6, hs6⟩ := add_lays B G 2 w3 W4 HG3.out HN.out (by have := HC.out; omega) (by have := HC.out; omega) (by have := HC.out; omega) hw4
              have g1 : W4.drew.cell? ⟨B.g, 1, none⟩ = some (.map (some B.mb)) := by rw [hw4]; exact (blk_cell (blk_set HG3.out.cell 0 _) 1).trans rfl
              have g2 : (madeW 2 W4.drew).cell? ⟨B.g, 1, none⟩ = some (.map (some B.mb)) := by
                rw [hw4]
                exact (blk_cell ((madeW_below 2 _).block _ (by simpa using blk_lt HG3.out.cell) |>.trans (blk_set HG3.out.cell 0 _)) 1).trans rfl
              have HR6 := Aside0.mk hr6
              have HG6 := Aside0.mk hg6
              have HS6 := Aside0.mk hs6
              have HG2 := Aside0.mk g2
              have HW4 := Aside0.mk hw4
              clear hr6 hg6 hs6 g2 c1 c0 f0 hln hw4
              refine start_ (n := 8) (S := fun W' => W'.cell? ⟨B.g, 1, none⟩ = some (.map (some B.mb))) (ds := [7]) #[false, false, false, false, false, false, false, false] (by kernel_rfl) rfl rfl g1 (fun hHeld => ?_)
              refine pure_ (i := 0) (N := some 54) (v := ?_) (a' := ?_) #[true, false, false, false, false, false, false, false] rfl rfl (by kernel_rfl) (fun _ _ _ h => h) (Or.inl ⟨by rfl, ?_⟩) ?_ ?_
              rotate_left
              · intro w'
                go_simp
                with_reducible rfl
              rotate_left
              · simp only [Act.put, List.setIfInBounds_toArray, List.set_cons_zero, List.set_cons_succ, i64_w, i32_w]
                rfl
              refine pure_ (i := 1) (N := some 55) (v := ?_) (a' := ?_) #[true, true, false, false, false, false, false, false] rfl rfl (by kernel_rfl) (fun _ _ _ h => h) (Or.inl ⟨by rfl, ?_⟩) ?_ ?_
              rotate_left
              · intro w'
                go_simp
                with_reducible rfl
              rotate_left
              · simp only [Act.put, List.setIfInBounds_toArray, List.set_cons_zero, List.set_cons_succ, i64_w, i32_w]
                rfl
              refine pure_ (i := 2) (N := some 56) (v := ?_) (a' := ?_) #[true, true, true, false, false, false, false, false] rfl rfl (by kernel_rfl) (fun _ _ _ h => h) (Or.inl ⟨by rfl, ?_⟩) ?_ ?_
              rotate_left
              · intro w'
                go_simp
                with_reducible rfl
              rotate_left
              · simp only [Act.put, List.setIfInBounds_toArray, List.set_cons_zero, List.set_cons_succ, i64_w, i32_w]
                rfl
              refine take_ (i := 3) (N := some 57) (v := ?_) (a' := ?_) #[true, true, true, true, false, false, false, false] rfl rfl (by kernel_rfl) (fun _ _ _ h => h) (Or.inl ⟨by rfl, ?_⟩) hHeld ?_ ?_
              rotate_left
              · rintro w' s1_
                go_simp
                with_reducible rfl
              rotate_left
              · simp only [Act.put, List.setIfInBounds_toArray, List.set_cons_zero, List.set_cons_succ, i64_w, i32_w]
                rfl
              refine pure_ (i := 4) (N := some 58) (v := ?_) (a' := ?_) #[true, true, true, true, true, false, false, false] rfl rfl (by kernel_rfl) (fun _ _ _ h => h) (Or.inl ⟨by rfl, ?_⟩) ?_ ?_
              rotate_left
              · intro w'
                go_simp
                with_reducible rfl
              rotate_left
              · simp only [Act.put, List.setIfInBounds_toArray, List.set_cons_zero, List.set_cons_succ, i64_w, i32_w]
                rfl
              refine pure_ (i := 5) (N := some 59) (v := ?_) (a' := ?_) #[true, true, true, true, true, true, false, false] rfl rfl (by kernel_rfl) (fun _ _ _ h => h) (Or.inl ⟨by rfl, ?_⟩) ?_ ?_
              rotate_left
              · intro w'
                go_simp
                with_reducible rfl
              rotate_left
              · simp only [Act.put, List.setIfInBounds_toArray, List.set_cons_zero, List.set_cons_succ, i64_w, i32_w]
                rfl
              clear g1
              refine one_ (i := 6) (N := some 60) #[true, true, true, true, true, true, true, false] rfl rfl (by kernel_rfl) (by decide) (fun K hK => ?_)
              skip
              refine goes_ Tryz.func38 (by kernel_rfl) rfl #[.int .i64 2] (by rfl) rfl rfl (by (simp only [List.map_toArray, List.map_cons, List.map_nil]); rfl) ?_
              refine (made_calls 2 _).mono ?_
              rintro e_ WL1 ⟨rfl, rfl⟩
              refine ⟨_, rfl, ?_⟩
              refine hK.out _ _ HG2.out (fun hHeld => ?_)
              clear hK K
              refine norm_ (a' := ?_) ?_ ?_
              rotate_left
              · show Act.put _ (some 60) _ = _
                simp only [Act.put, List.setIfInBounds_toArray, List.set_cons_zero, List.set_cons_succ, i64_w, i32_w]
                rfl
              refine last_ (i := 7) (N := none) #[true, true, true, true, true, true, true, true] rfl rfl (by kernel_rfl) (by decide) (fun K hK => ?_)
              refine step_update rfl (.tmp 57) (.tmp 58) (.tmp 60) 71 rfl rfl rfl rfl HR6.out ?_
              refine hK.out _ _ ?_
              clear hK K
              refine done_ (by kernel_rfl) ?_
              have hat : (GS.mk (G.next + 1) G.count (putO (G.next, newO 2) G.objs)).at gid = some o := by rw [at_putO, if_neg hgn]; exact HO.out
              have hcp := put_calls (B.plus G.next (W4.heap.size + 1) W4.heap.size) _ gid o (n3, G.next, ⟨#[]⟩) W6 HG6.out hat HNM.out G3 HP.out
              rw [GB.plus_ob hgn] at hcp
              have HCP := Aside0.mk hcp
              clear hcp hat
              go_wp2_with (go_at_call 42; refine HCP.out.mono ?_; rintro e_ w7 ⟨rfl, hg7, hs7⟩; have HG7 := Aside0.mk hg7; have HS7 := Aside0.mk hs7; clear hg7 hs7)
              go_ret2
              have hz : w1.heap.size ≤ W4.heap.size := by rw [HW4.out]; simpa using HW3.out.size
              have hfn : ∀ k, foot (B.plus G.next (W4.heap.size + 1) W4.heap.size) (GS.mk (G.next + 1) G.count (putO (G.next, newO 2) G.objs)) k → foot B G k ∨ w1.heap.size ≤ k := by
                intro k hk
                rcases foot_plus hk with h | rfl | rfl
                · exact .inl h
                · exact .inr (by omega)
                · exact .inr hz
              refine ⟨rfl, B.plus G.next (W4.heap.size + 1) W4.heap.size, rfl, HG7.out, fun k hk => hfn k (foot_keys (fun y hy => putG_keys HP.out hy) hk), ?_⟩
              have hs36 := (SameOn.of_below HW3.out).trans HS6.out
              exact ⟨Nat.le_trans hs36.size HS7.out.size, fun k hk hl => (HS7.out.same k (fun hf => (hfn k hf).elim hk (fun h => by omega)) (Nat.lt_of_lt_of_le hl hs36.size)).trans (hs36.same k hk hl), HS7.out.os.trans hs36.os, HS7.out.tape.trans hs36.tape, HS7.out.output.trans hs36.output⟩
      · have hif : (if re = 0 ∧ G.objs.length = 128 then (7 : Int) else re) = re := if_neg (fun q => hre q.1)
        rw [hif, if_neg hre] at h
        obtain ⟨rfl, rfl, rfl⟩ : (0 : Int) = id ∧ re = e ∧ G = G2 := by simpa using h
        have hreb : (re == 0) = false := by simpa using hre
        have hreb2 : (re != 0) = true := by simpa using hre
        clear h hr
        rcases hk with rfl | rfl <;> (
          go_enter Tryz.func16, Tryz.ntmps16
          go_wp2_with (first
            | (go_at_call 39; refine (good_calls B G _ HG.out).mono ?_; rintro e_ w1 ⟨rfl, rfl⟩)
            | (go_at_call 41; refine (room_calls B G p _ HL.out HG.out gid re nm HR.out).mono ?_; rintro e_ w3 ⟨⟨v3, n3, rfl, hv3⟩, hw3⟩; have HW3 := Aside0.mk hw3; have HG3 := Aside0.mk (HG.out.below hw3); clear hw3 hv3))
          go_ret2
          exact ⟨rfl, B, rfl, HG3.out, fun k hk => .inl hk, SameOn.of_below HW3.out⟩)
  · rw [if_neg hk] at h
    obtain ⟨rfl, rfl, rfl⟩ : (0 : Int) = id ∧ (2 : Int) = e ∧ G = G2 := by simpa using h
    have hk1 : (kind != 1) = true := by simpa using (fun q => hk (.inl q) : ¬ kind = 1)
    have hk2 : (kind != 2) = true := by simpa using (fun q => hk (.inr q) : ¬ kind = 2)
    clear h
    go_enter Tryz.func16, Tryz.ntmps16
    go_wp2_with (go_at_call 39; refine (good_calls B G _ HG.out).mono ?_; rintro e_ w1 ⟨rfl, rfl⟩)
    go_ret2
    exact ⟨rfl, B, rfl, HG.out, fun k hk => .inl hk, SameOn.refl _ _⟩
end
end Go.Proofs.YthifdofdoeaemaaGreatDoor.Wk
end
section
namespace Go.Proofs.YthifdofdoeaemaaGreatDoor.Wk
open Go.RowKit Go.Proofs.YthifdofdoeaemaaGreatDoorW.PrintWords Go.Proofs.YthifdofdoeaemaaGreatDoorW.PrintLast Go.Proofs.YthifdofdoeaemaaGreatDoorW.PrintMore
attribute [local go_sem] max2_int min2_int max_two min_two max_three min_three max_four min_four
set_option linter.unusedVariables false
set_option linter.unusedSimpArgs false
section
open Go.RowKit Go.Lib Go.Maps Go.Proofs.YthifdofdoeaemaaGreatDoorQ
attribute [local go_sem] Oper.semAt_some
def Swept (w : World) (B : GB) (G : GS) (r : List Int) (G2 : GS) (ev : Ending) (w' : World) : Prop :=
  ∃ v, ev = .returned v ∧ w'.ownsRow w.heap.size 3 1 v r.length (r.map (.int .i64)) ∧ GraphAt w' B G2 ∧ (∀ y ∈ G2.objs, ∃ z ∈ G.objs, y.1 = z.1) ∧ SameOn (fun k => ¬ foot B G k) w w'
theorem GraphAt.delL {A : World} {B : GB} {G : GS} (h : GraphAt A B G) {id : Int} {o : GO} (ho : G.at id = some o) (n : ByteArray) (hk : keyOf Tryz.prog 9 (.string n) = some (keyL n)) :
    ∃ W, (Builtin.delete_ #[87, 9] 0 #[.map (some (B.lb id)), .string n]).run Tryz.prog A = .ok (.tuple #[]) W ∧
      GraphAt W B { G with objs := setO G.objs id (fun o => { o with links := delK n o.links }) } ∧ SameOn (fun k => k ≠ B.lb id) A W := by
  have hb := h.obj ho
  obtain ⟨W, hr, hW, ht⟩ := hb.2.drop (string_keyed Tryz.underlying9) Tryz.underlying87 hk 0
  have hg := ht.grown
  rw [del_L] at hW
  have hW2 := own_tight hW
  rw [List.length_map] at hW2
  have hs : ∀ k, k ≠ B.lb id → k < A.heap.size → W.heap[k]? = A.heap[k]? := fun k hk hl => hg.block k hl (fun e => hk (by injection e))
  refine ⟨W, hr, h.turnO ho _ ⟨(hs _ (h.ob_lb (at_mem ho) (at_mem ho)) (blk_lt hb.1)).trans hb.1, hW2⟩ (fun k _ _ h2 hl => hs k h2 hl), ?_⟩
  exact ⟨hg.size, fun k h1 h2 => hs k h1 h2, hg.os, hg.tape, hg.output⟩
def lnkV (k : Option Lk) : Lk := k.getD (⟨#[]⟩, 0, ⟨#[]⟩)
theorem ObjAt.look2 {W : World} {B : GB} {x : Int × GO} (h : ObjAt W B x) (n : ByteArray) (hz : (zeroValue 42).run Tryz.prog W = .ok (.agg #[.string ⟨#[]⟩, .int .i64 0, .string ⟨#[]⟩]) W) (hk : keyOf Tryz.prog 9 (.string n) = some (keyL n)) :
    (Instr.lookup 87 (.map (some (B.lb x.1))) (.string n) false).run Tryz.prog W = .ok (.agg #[.string (lnkV (lnk x.2.links n)).1, .int .i64 (lnkV (lnk x.2.links n)).2.1, .string (lnkV (lnk x.2.links n)).2.2]) W := by
  rw [h.look1 n hz hk]
  cases lnk x.2.links n <;> rfl
set_option maxHeartbeats 8000000 in
set_option maxRecDepth 100000 in
theorem cut_calls (rec : GS → Int → Option (List Int × GS)) (B : GB)
    (hrec : ∀ (G : GS) (id : Int) (r : List Int) (G2 : GS) (w : World), GraphAt w B G → rec G id = some (r, G2) → Calls Tryz.prog 50 #[.pointer (some ⟨B.g, 0, none⟩), .int .i64 id] w (Swept w B G r G2))
    (G : GS) (id : Int) (o : GO) (n : ByteArray) (w : World) (hG : GraphAt w B G) (ho : G.at id = some o) (hk : keyOf Tryz.prog 9 (.string n) = some (keyL n)) (r : List Int) (G2 : GS) (h : cutG rec G id n = some (r, G2)) :
    Calls Tryz.prog 45 #[.pointer (some ⟨B.g, 0, none⟩), .pointer (some ⟨B.ob id, 0, none⟩), .string n] w (Swept w B G r G2) := by
  unfold cutG at h
  rw [ho] at h
  simp only at h
  by_cases hc : -4611686018427387904 < G.count ∧ G.count < 4611686018427387904
  rotate_left
  · rw [if_neg hc] at h; cases h
  rw [if_pos hc] at h
  obtain ⟨hc2, hc3⟩ := hc
  obtain ⟨k, hkd⟩ : ∃ k, k = lnkV (lnk o.links n) := ⟨_, rfl⟩
  obtain ⟨bx, hbx⟩ : ∃ bx, bx = Obj.cells #[.string k.1, .int .i64 k.2.1, .string k.2.2] 42 (0, 0) := ⟨_, rfl⟩
  have hlk := (hG.obj ho).look2 n (Tryz.zeroValue42 w) hk
  simp only [← hkd] at hlk
  have hG0 : GraphAt (w.alloc bx) B G := hG.below (below_alloc (Below.refl _ _) _)
  have hwc : wrap64 (G.count - 1) = G.count - 1 := by unfold wrap64; omega
  obtain ⟨W1, hr1, hG1, hs1⟩ := hG0.delL ho n hk
  have hgl : B.g ≠ B.lb id := hG.g_lb (at_mem ho)
  have hlf : foot B G (B.lb id) := .inr (.inr ⟨_, at_mem ho, .inr rfl⟩)
  have hlb : B.lb id ≠ w.heap.size := by have := (hG.obj ho).2.lt; simp only at this; omega
  have hgs : B.g ≠ w.heap.size := by have := blk_lt hG.cell; omega
  have hs01 : SameOn (fun k => ¬ foot B G k) w W1 := (SameOn.of_below (below_alloc (Below.refl _ _) _)).trans (hs1.mono (fun k hk e => hk (e ▸ hlf)))
  obtain ⟨W2, hw2⟩ : ∃ W2, W2 = W1.setCell ⟨B.g, 2, none⟩ (.int .i64 (G.count - 1)) := ⟨_, rfl⟩
  have c2 : W2.heap[B.g]? = some (.cells #[.int .i64 G.next, .map (some B.mb), .int .i64 (G.count - 1)] 73 (0, 0)) := by rw [hw2]; exact (blk_set hG1.cell 2 _).trans rfl
  have hG2 := hG1.turnG (W := W2) G.next (G.count - 1) c2 (fun k _ hk _ => by rw [hw2]; exact Below.heap_setCell _ _ _ _ hk)
  have hs02 : SameOn (fun k => ¬ foot B G k) w W2 := hs01.trans (by rw [hw2]; exact SameOn.setCell _ _ _ (fun hn => hn (.inl rfl)))
  have hbx0 : (w.alloc bx).heap[w.heap.size]? = some bx := World.alloc_heap_new _ _
  have hbx1 : W1.heap[w.heap.size]? = some bx := (hs1.same _ hlb.symm (by simp)).trans hbx0
  have hbx2 : W2.heap[w.heap.size]? = some bx := by rw [hw2]; exact (Below.heap_setCell _ _ _ _ hgs.symm).trans hbx1
  have c10 : W1.cell? ⟨B.g, 2, none⟩ = some (.int .i64 G.count) := hG1.c2
  have f10 : W1.frozen? ⟨B.g, 2, none⟩ = false := blk_frozen hG1.cell 2
  have o00 := (hG.obj ho).c1
  have o01 : (w.alloc bx).cell? ⟨B.ob id, 1, none⟩ = some (.map (some (B.lb id))) := (hG0.obj ho).c1
  have b21 : W2.cell? ⟨w.heap.size, 1, none⟩ = some (.int .i64 k.2.1) := by rw [hbx] at hbx2; exact (blk_cell hbx2 1).trans rfl
  have HG2 := Aside0.mk hG2
  have HS2 := Aside0.mk hs02
  have HW2 := Aside0.mk hw2
  have HBX := Aside0.mk hbx
  have HBX2 := Aside0.mk hbx2
  have hkeys : ∀ y ∈ setO G.objs id (fun o => { o with links := delK n o.links }), ∃ z ∈ G.objs, y.1 = z.1 := fun y hy => key_setO hy
  rw [hbx] at hr1 o01
  clear hG0 hG1 hs1 hs01 hs02 hbx0 hbx1 hG2 hbx2 hw2 hbx
  by_cases ht : k.2.1 = 0
  · have hres : r = [] ∧ G2 = GS.mk G.next (G.count - 1) (setO G.objs id (fun o => { o with links := delK n o.links })) := by
      cases hl : lnk o.links n with
      | none => rw [hl] at h; cases h; exact ⟨rfl, rfl⟩
      | some q =>
        rw [hl] at h hkd
        have hq : k = q := hkd
        rw [hq] at ht
        simp only [if_pos ht] at h
        cases h
        exact ⟨rfl, rfl⟩
    obtain ⟨rfl, rfl⟩ := hres
    have htb : (k.2.1 == 0) = true := by simpa using ht
    have HD := Aside0.mk hkd
    clear h hkd ht
    go_enter Tryz.func45, Tryz.ntmps45
    go_upto_region 4 with (fail)
    rw [← HW2.out]
    clear c10 f10 hr1 o00 o01
    go_wp2
    go_ret
    exact ⟨_, rfl, World.ownsRow_nil _ _ _ _, HG2.out, hkeys, HS2.out⟩
  · have htb : (k.2.1 == 0) = false := by simpa using ht
    have hl : lnk o.links n = some k := by
      cases hl : lnk o.links n with
      | none => rw [hl] at hkd; rw [hkd] at ht; exact absurd rfl ht
      | some q => rw [hl] at hkd; rw [hkd]; rfl
    rw [hl] at h
    simp only [if_neg ht] at h
    have HD := Aside0.mk hkd
    clear hkd ht hl
    rw [at_setO] at h
    cases hgt : G.at k.2.1 with
    | none => rw [hgt] at h; cases h
    | some y =>
      rw [hgt] at h
      simp only [Option.map_some] at h
      obtain ⟨y2, hy2⟩ : ∃ y2, y2 = (if k.2.1 = id then { y with links := delK n y.links } else y) := ⟨_, rfl⟩
      rw [← hy2] at h
      by_cases hb : -4611686018427387904 < y2.leads ∧ y2.leads < 4611686018427387904
      rotate_left
      · rw [if_neg hb] at h; cases h
      rw [if_pos hb] at h
      have hwl : wrap64 (y2.leads - 1) = y2.leads - 1 := by obtain ⟨h1, h2⟩ := hb; unfold wrap64; omega
      have hat2 : (GS.mk G.next (G.count - 1) (setO G.objs id (fun o => { o with links := delK n o.links }))).at k.2.1 = some y2 := by rw [at_setO, hgt, hy2]; rfl
      have HAT := Aside0.mk hat2
      have HREC := Aside0.mk h
      clear hat2 hy2 hb hgt h
      have hG3 : GraphAt W2.drew B _ := HG2.out.below (below_drew (Below.refl _ _))
      have hl3 := hG3.lookAt HAT.out
      have HO3 := Aside0.mk (hG3.obj HAT.out)
      have HG3 := Aside0.mk hG3
      have g31 : W2.drew.cell? ⟨B.g, 1, none⟩ = some (.map (some B.mb)) := hG3.c1
      have o32 : W2.drew.cell? ⟨B.ob k.2.1, 2, none⟩ = some (.int .i64 y2.leads) := (hG3.obj HAT.out).c2
      have hS : W2.drew.cell? ⟨B.g, 1, none⟩ = some (.map (some B.mb)) ∧ W2.drew.cell? ⟨w.heap.size, 1, none⟩ = some (.int .i64 k.2.1) ∧ (Instr.lookup 71 (.map (some B.mb)) (.int .i64 k.2.1) false).run Tryz.prog W2.drew = .ok (.pointer (some ⟨B.ob k.2.1, 0, none⟩)) W2.drew ∧ W2.drew.cell? ⟨B.ob k.2.1, 2, none⟩ = some (.int .i64 y2.leads) := ⟨g31, b21, hl3, o32⟩
      have HSS := Aside0.mk hS
      obtain ⟨W3, hw3⟩ : ∃ W3, W3 = W2.drew.setCell ⟨B.ob k.2.1, 2, none⟩ (.int .i64 (wrap64 (y2.leads - 1))) := ⟨_, rfl⟩
      have hf3 : W2.drew.frozen? ⟨B.ob k.2.1, 2, none⟩ = false := blk_frozen HO3.out.1 2
      have hr3 : (Instr.storeAt 3 (.pointer (some ⟨B.ob k.2.1, 2, none⟩)) (.int .i64 (wrap64 (y2.leads - 1)))).run Tryz.prog W2.drew = .ok () W3 := by
        rw [hw3]
        go_simp
      have hfin : GraphAt W3 B { (GS.mk G.next (G.count - 1) (setO G.objs id (fun o => { o with links := delK n o.links }))) with objs := setO (setO G.objs id (fun o => { o with links := delK n o.links })) k.2.1 (fun o => { o with leads := o.leads - 1 }) } := by
        refine HG3.out.turnO HAT.out _ ⟨?_, own_same HO3.out.2 ?_⟩ (fun k _ hk _ _ => ?_)
        · rw [hw3, hwl]; exact (blk_set HO3.out.1 2 _).trans rfl
        · rw [hw3]; exact Below.heap_setCell _ _ _ _ (HG3.out.ob_lb (at_mem HAT.out) (at_mem HAT.out)).symm
        · rw [hw3]; exact Below.heap_setCell _ _ _ _ hk
      have hfo : foot B G (B.ob k.2.1) := foot_setO (.inr (.inr ⟨_, at_mem HAT.out, .inl rfl⟩))
      have hsf : SameOn (fun k => ¬ foot B G k) w W3 := by
        rw [hw3]
        exact (HS2.out.trans (SameOn.of_below (below_drew (Below.refl _ _)))).trans (SameOn.setCell _ _ _ (fun hn => hn hfo))
      have b31 : W3.cell? ⟨w.heap.size, 1, none⟩ = some (.int .i64 k.2.1) := by
        have h1 : W3.heap[w.heap.size]? = some bx := by
          rw [hw3]
          exact (Below.heap_setCell _ _ _ _ (show w.heap.size ≠ B.ob k.2.1 from fun e => by have := hG.foot_lt hfo; omega)).trans HBX2.out
        rw [HBX.out] at h1
        exact (blk_cell h1 1).trans rfl
      have HFIN := Aside0.mk hfin
      have HSF := Aside0.mk hsf
      have HR3 := Aside0.mk hr3
      have B31 := Aside0.mk b31
      clear hfin hsf hr3 hw3 hf3 hS o32 g31 hl3 hG3 c2 hfo b31
      go_enter Tryz.func45, Tryz.ntmps45
      go_upto_region 4 with (fail)
      rw [← HW2.out]
      clear c10 f10 hr1 o00 o01
      go_upto_region 6 with (fail)
      refine start_ (n := 14) (S := fun W' => W'.cell? ⟨B.g, 1, none⟩ = some (.map (some B.mb)) ∧ W'.cell? ⟨w.heap.size, 1, none⟩ = some (.int .i64 k.2.1) ∧ (Instr.lookup 71 (.map (some B.mb)) (.int .i64 k.2.1) false).run Tryz.prog W' = .ok (.pointer (some ⟨B.ob k.2.1, 0, none⟩)) W' ∧ W'.cell? ⟨B.ob k.2.1, 2, none⟩ = some (.int .i64 y2.leads)) (ds := [13]) #[false, false, false, false, false, false, false, false, false, false, false, false, false, false] (by kernel_rfl) rfl rfl HSS.out (fun hHeld => ?_)
      refine pure_ (i := 0) (N := some 29) (v := ?_) (a' := ?_) #[true, false, false, false, false, false, false, false, false, false, false, false, false, false] rfl rfl (by kernel_rfl) (fun _ _ _ h => h) (Or.inl ⟨by rfl, ?_⟩) ?_ ?_
      rotate_left
      · intro w'
        go_simp
        with_reducible rfl
      rotate_left
      · simp only [Act.put, List.setIfInBounds_toArray, List.set_cons_zero, List.set_cons_succ, i64_w, i32_w]
        rfl
      refine pure_ (i := 1) (N := some 30) (v := ?_) (a' := ?_) #[true, true, false, false, false, false, false, false, false, false, false, false, false, false] rfl rfl (by kernel_rfl) (fun _ _ _ h => h) (Or.inl ⟨by rfl, ?_⟩) ?_ ?_
      rotate_left
      · intro w'
        go_simp
        with_reducible rfl
      rotate_left
      · simp only [Act.put, List.setIfInBounds_toArray, List.set_cons_zero, List.set_cons_succ, i64_w, i32_w]
        rfl
      refine pure_ (i := 2) (N := some 31) (v := ?_) (a' := ?_) #[true, true, true, false, false, false, false, false, false, false, false, false, false, false] rfl rfl (by kernel_rfl) (fun _ _ _ h => h) (Or.inl ⟨by rfl, ?_⟩) ?_ ?_
      rotate_left
      · intro w'
        go_simp
        with_reducible rfl
      rotate_left
      · simp only [Act.put, List.setIfInBounds_toArray, List.set_cons_zero, List.set_cons_succ, i64_w, i32_w]
        rfl
      refine take_ (i := 3) (N := some 32) (v := ?_) (a' := ?_) #[true, true, true, true, false, false, false, false, false, false, false, false, false, false] rfl rfl (by kernel_rfl) (fun _ _ _ h => h) (Or.inl ⟨by rfl, ?_⟩) hHeld ?_ ?_
      rotate_left
      · rintro w' ⟨s1_, s2_, s3_, s4_⟩
        go_simp
        with_reducible rfl
      rotate_left
      · simp only [Act.put, List.setIfInBounds_toArray, List.set_cons_zero, List.set_cons_succ, i64_w, i32_w]
        rfl
      refine pure_ (i := 4) (N := some 33) (v := ?_) (a' := ?_) #[true, true, true, true, true, false, false, false, false, false, false, false, false, false] rfl rfl (by kernel_rfl) (fun _ _ _ h => h) (Or.inl ⟨by rfl, ?_⟩) ?_ ?_
      rotate_left
      · intro w'
        go_simp
        with_reducible rfl
      rotate_left
      · simp only [Act.put, List.setIfInBounds_toArray, List.set_cons_zero, List.set_cons_succ, i64_w, i32_w]
        rfl
      refine take_ (i := 5) (N := some 34) (v := ?_) (a' := ?_) #[true, true, true, true, true, true, false, false, false, false, false, false, false, false] rfl rfl (by kernel_rfl) (fun _ _ _ h => h) (Or.inl ⟨by rfl, ?_⟩) hHeld ?_ ?_
      rotate_left
      · rintro w' ⟨s1_, s2_, s3_, s4_⟩
        go_simp
        with_reducible rfl
      rotate_left
      · simp only [Act.put, List.setIfInBounds_toArray, List.set_cons_zero, List.set_cons_succ, i64_w, i32_w]
        rfl
      refine take_ (i := 6) (N := some 35) (v := ?_) (a' := ?_) #[true, true, true, true, true, true, true, false, false, false, false, false, false, false] rfl rfl (by kernel_rfl) (fun _ _ _ h => h) (Or.inl ⟨by rfl, ?_⟩) hHeld ?_ ?_
      rotate_left
      · rintro w' ⟨s1_, s2_, s3_, s4_⟩
        go_simp
        with_reducible rfl
      rotate_left
      · simp only [Act.put, List.setIfInBounds_toArray, List.set_cons_zero, List.set_cons_succ, i64_w, i32_w]
        rfl
      refine pure_ (i := 7) (N := some 36) (v := ?_) (a' := ?_) #[true, true, true, true, true, true, true, true, false, false, false, false, false, false] rfl rfl (by kernel_rfl) (fun _ _ _ h => h) (Or.inl ⟨by rfl, ?_⟩) ?_ ?_
      rotate_left
      · intro w'
        go_simp
        with_reducible rfl
      rotate_left
      · simp only [Act.put, List.setIfInBounds_toArray, List.set_cons_zero, List.set_cons_succ, i64_w, i32_w]
        rfl
      refine pure_ (i := 8) (N := some 37) (v := ?_) (a' := ?_) #[true, true, true, true, true, true, true, true, true, false, false, false, false, false] rfl rfl (by kernel_rfl) (fun _ _ _ h => h) (Or.inl ⟨by rfl, ?_⟩) ?_ ?_
      rotate_left
      · intro w'
        go_simp
        with_reducible rfl
      rotate_left
      · simp only [Act.put, List.setIfInBounds_toArray, List.set_cons_zero, List.set_cons_succ, i64_w, i32_w]
        rfl
      refine take_ (i := 9) (N := some 38) (v := ?_) (a' := ?_) #[true, true, true, true, true, true, true, true, true, true, false, false, false, false] rfl rfl (by kernel_rfl) (fun _ _ _ h => h) (Or.inl ⟨by rfl, ?_⟩) hHeld ?_ ?_
      rotate_left
      · rintro w' ⟨s1_, s2_, s3_, s4_⟩
        go_simp
        with_reducible rfl
      rotate_left
      · simp only [Act.put, List.setIfInBounds_toArray, List.set_cons_zero, List.set_cons_succ, i64_w, i32_w]
        rfl
      refine pure_ (i := 10) (N := some 39) (v := ?_) (a' := ?_) #[true, true, true, true, true, true, true, true, true, true, true, false, false, false] rfl rfl (by kernel_rfl) (fun _ _ _ h => h) (Or.inl ⟨by rfl, ?_⟩) ?_ ?_
      rotate_left
      · intro w'
        go_simp
        with_reducible rfl
      rotate_left
      · simp only [Act.put, List.setIfInBounds_toArray, List.set_cons_zero, List.set_cons_succ, i64_w, i32_w]
        rfl
      refine pure_ (i := 11) (N := some 40) (v := ?_) (a' := ?_) #[true, true, true, true, true, true, true, true, true, true, true, true, false, false] rfl rfl (by kernel_rfl) (fun _ _ _ h => h) (Or.inl ⟨by rfl, ?_⟩) ?_ ?_
      rotate_left
      · intro w'
        go_simp
        with_reducible rfl
      rotate_left
      · simp only [Act.put, List.setIfInBounds_toArray, List.set_cons_zero, List.set_cons_succ, i64_w, i32_w]
        rfl
      refine pure_ (i := 12) (N := some 41) (v := ?_) (a' := ?_) #[true, true, true, true, true, true, true, true, true, true, true, true, true, false] rfl rfl (by kernel_rfl) (fun _ _ _ h => h) (Or.inl ⟨by rfl, ?_⟩) ?_ ?_
      rotate_left
      · intro w'
        go_simp
        with_reducible rfl
      rotate_left
      · simp only [Act.put, List.setIfInBounds_toArray, List.set_cons_zero, List.set_cons_succ, i64_w, i32_w]
        rfl
      refine last_ (i := 13) (N := none) #[true, true, true, true, true, true, true, true, true, true, true, true, true, true] rfl rfl (by kernel_rfl) (by decide) (fun K hK => ?_)
      refine step_store rfl (.tmp 41) (.tmp 39) 3 rfl rfl rfl HR3.out ?_
      refine hK.out _ _ ?_
      clear hK K
      refine done_ (by kernel_rfl) ?_
      clear HSS hHeld b21
      have b31 := B31.out
      go_wp2_with (go_at_call 50; refine (hrec _ _ r G2 _ HFIN.out HREC.out).mono ?_; rintro e_ w4 ⟨v4, rfl, hr4, hg4, hk4, hs4⟩; have HR4 := Aside0.mk hr4; have HG4 := Aside0.mk hg4; have HK4 := Aside0.mk hk4; have HS4 := Aside0.mk hs4; clear hr4 hg4 hk4 hs4)
      go_ret
      have hkk : ∀ y ∈ (setO (setO G.objs id (fun o => { o with links := delK n o.links })) k.2.1 (fun o => { o with leads := o.leads - 1 })), ∃ z ∈ G.objs, y.1 = z.1 := fun y hy => by
        obtain ⟨a, ha, e⟩ := key_setO hy
        obtain ⟨b, hb, e2⟩ := key_setO ha
        exact ⟨b, hb, e.trans e2⟩
      refine ⟨_, rfl, HR4.out.mono HSF.out.size, HG4.out, fun y hy => ?_, HSF.out.trans (HS4.out.mono (fun k hk hf => hk (foot_keys hkk hf)))⟩
      obtain ⟨a, ha, e⟩ := HK4.out y hy
      obtain ⟨b, hb, e2⟩ := hkk a ha
      exact ⟨b, hb, e.trans e2⟩
end
end Go.Proofs.YthifdofdoeaemaaGreatDoor.Wk
end
section
namespace Go.Proofs.YthifdofdoeaemaaGreatDoor.Wk
open Go.RowKit Go.Proofs.YthifdofdoeaemaaGreatDoorW.PrintWords Go.Proofs.YthifdofdoeaemaaGreatDoorW.PrintLast Go.Proofs.YthifdofdoeaemaaGreatDoorW.PrintMore
attribute [local go_sem] max2_int min2_int max_two min_two max_three min_three max_four min_four
set_option linter.unusedVariables false
set_option linter.unusedSimpArgs false
section
open Go.RowKit Go.Lib Go.Maps Go.Sort Go.Shelf Go.Proofs.YthifdofdoeaemaaGreatDoorQ
theorem le_of_before : ∀ a b : List UInt8, bytesBefore a b = true → ¬ b < a
  | [], [], h => by simp [bytesBefore] at h
  | [], _ :: _, _ => by simp
  | _ :: _, [], h => by simp [bytesBefore] at h
  | a :: r, b :: s, h => by
    simp only [bytesBefore, Bool.or_eq_true, Bool.and_eq_true, decide_eq_true_eq, beq_iff_eq] at h
    rw [List.cons_lt_cons_iff]
    rintro (h1 | ⟨h1, h2⟩)
    · rcases h with h | ⟨h, -⟩
      · exact absurd h1 (UInt8.lt_asymm h)
      · subst h; exact absurd h1 (UInt8.lt_irrefl _)
    · subst h1
      rcases h with h | ⟨-, h⟩
      · exact absurd h (UInt8.lt_irrefl _)
      · exact le_of_before r s h h2
theorem own_rising {w : World} {P : Program} {k : TypeId} {R : Value → Option (DataW Unit × List MemPlace)} {b n : Nat} {es : List (Lit × DataW Unit)} (K : Keyed P k) (h : w.ownsMap P k R b n (.map es)) : es.Pairwise (fun p q => p.1.before q.1 = true) := by
  obtain ⟨e, he, hp, -⟩ := h.canon K
  cases he
  exact hp
theorem strKeys_L (l : List Lk) : strKeys (DataW.map (l.map encL)) = l.map (fun x => x.1.data.toList) := by
  simp [strKeys, strOf, encL, keyL]
theorem sorted_L {l : List Lk} (hp : (l.map encL).Pairwise (fun p q => p.1.before q.1 = true)) {ss : List (List UInt8)} (h : ss.Perm (strKeys (DataW.map (l.map encL)))) : ss.mergeSort leB = l.map (fun x => x.1.data.toList) := by
  rw [mergeSort_of_perm h, strKeys_L]
  refine List.mergeSort_of_pairwise ?_
  rw [List.pairwise_map] at hp ⊢
  refine hp.imp (fun {a b} hab => ?_)
  exact decide_eq_true (List.not_lt.1 (le_of_before _ _ hab))
theorem sorts_str (m : Nat) : AnyZ.SortsIn Tryz.prog Tryz.sorted77_ren Fence.wide m :=
  ⟨fun blk off cap ss W hH hblk hsz => callsIn_wide.2 (AnyM.slices_Sort_string Tryz.sort109 blk off cap ss W hH hblk hsz),
   fun p cap W => callsIn_wide.2 (AnyM.slices_Sort_string_none Tryz.sort109 p cap W)⟩
theorem keysL_calls (mb : Option Nat) (W : World) : Calls Tryz.prog 78 #[.map mb] W fun e w' => e = .returned (.func (.func 110) #[] #[.pointer (some ⟨W.heap.size, 0, none⟩)]) ∧ w' = W.alloc (.cells #[.map mb] 87) :=
  (callsIn_wide (n := 5)).1 (AnyZ.keys_in Tryz.keys78 Fence.wide 5 trivial rfl mb W)
set_option maxHeartbeats 1000000 in
theorem sortedL_calls (b n : Nat) (l : List Lk) (w : World) (hown : w.ownsMap Tryz.prog 9 readL b n (.map (l.map encL))) (hb : l.length ≤ bound) :
    Calls Tryz.prog 77 #[.func (.func 110) #[] #[.pointer (some ⟨w.heap.size, 0, none⟩)]] (w.alloc (.cells #[.map (some b)] 87)) fun e w' =>
      ∃ v, e = .returned v ∧ w'.ownsRow w.heap.size 9 1 v l.length (l.map (fun x => .string x.1)) ∧ Below (w.heap.size + 1) (w.alloc (.cells #[.map (some b)] 87)) w' := by
  have hbl := hown.lt
  have hsz : Maps.size (DataW.map (H := Unit) (l.map encL)) = l.length := by simp [Maps.size]
  have hseq : SeqGives Fence.wide 2 Tryz.prog 110 #[.pointer (some ⟨w.heap.size, 0, none⟩)] encStr (fun ss => ss.Perm (strKeys (DataW.map (H := Unit) (l.map encL)))) (Maps.size (DataW.map (H := Unit) (l.map encL))) (w.alloc (.cells #[.map (some b)] 87)) :=
    AnyZ.keys_gives (ρ := Tryz.keys78_ren) { Tryz.keys78 with } Fence.wide _ trivial rfl (by omega) w.heap.size b n _ _ (by simp) (by simp) (by
      obtain ⟨es, clock, hb, Ft, hs, hD⟩ := hown
      exact ⟨es, clock, (Below.heap_alloc _ _ b hbl).trans hb, Ft, hs, hD⟩)
  have hc := AnyZ.sorted_in Tryz.sorted77 Fence.wide 5 trivial trivial trivial trivial rfl (by omega) (sorts_str _) (enters_of Tryz.func109 (by kernel_rfl) rfl) 110 #[.pointer (some ⟨w.heap.size, 0, none⟩)] trivial (enters_of Tryz.func110 (by kernel_rfl) rfl) _ _ (by rw [hsz]; unfold bound at hb; unfold maxLen; omega) (by rw [hsz]; unfold bound at hb; omega) _ hseq
  refine ((callsIn_wide (n := 5)).1 hc).mono ?_
  rintro e w' ⟨v, ss, rfl, hp, hrow, -, hbw⟩
  have hs1 : (w.alloc (.cells #[.map (some b)] 87)).heap.size = w.heap.size + 1 := by simp
  have hlen : ss.length = l.length := by rw [hp.length_eq, strKeys_L, List.length_map]
  rw [sorted_L (own_rising (string_keyed Tryz.underlying9) hown) hp, List.map_map, hlen] at hrow
  refine ⟨v, rfl, ?_, hs1 ▸ hbw⟩
  have := hrow.mono (base' := w.heap.size) (by omega)
  refine this
theorem key_len {P : Program} {k : TypeId} (hk : P.underlying k = some .string) {v : Value} {n : ByteArray} (h : keyOf P k v = some (keyL n)) : n.size ≤ maxLen := by
  rw [show keyOf P k v = mapKey P k v by simp [keyOf, hk]] at h
  unfold mapKey at h
  rw [hk] at h
  cases v <;> simp [keyL] at h
  rename_i s
  obtain ⟨h1, h2⟩ := h
  have e : s = n := bytes_inj (by rw [h2])
  rw [← e]
  exact h1
theorem own_key {w : World} {b n : Nat} {l : List Lk} (h : w.ownsMap Tryz.prog 9 readL b n (.map (l.map encL))) {x : Lk} (hx : x ∈ l) : keyOf Tryz.prog 9 (.string x.1) = some (keyL x.1) := by
  obtain ⟨es, clock, hb, F, hn, hD⟩ := h
  have h1 : encL x ∈ (es.toList.map (WideElems.rg Tryz.prog 9 readL)).foldr DataW.insert [] := by
    rw [← DataW.map.inj hD]
    exact List.mem_map_of_mem hx
  obtain ⟨m, hm, e⟩ := List.mem_map.1 (mem_sorted.1 h1)
  obtain ⟨y, hy⟩ := F.reads m hm
  rw [WideElems.rg_of hy] at e
  have h2 := WideElems.rd_key hy
  rw [e] at h2
  exact WideMaps.keyOf_string_mk Tryz.underlying9 (key_len Tryz.underlying9 h2)
end
end Go.Proofs.YthifdofdoeaemaaGreatDoor.Wk
end
section
namespace Go.Proofs.YthifdofdoeaemaaGreatDoor.Wk
open Go.RowKit Go.Proofs.YthifdofdoeaemaaGreatDoorW.PrintWords Go.Proofs.YthifdofdoeaemaaGreatDoorW.PrintLast Go.Proofs.YthifdofdoeaemaaGreatDoorW.PrintMore
attribute [local go_sem] max2_int min2_int max_two min_two max_three min_three max_four min_four
set_option linter.unusedVariables false
set_option linter.unusedSimpArgs false
section
open Go.RowKit Go.Lib Go.Maps Go.Proofs.YthifdofdoeaemaaGreatDoorQ
attribute [local go_sem] Oper.semAt_some
set_option maxHeartbeats 8000000 in
set_option maxRecDepth 100000 in
theorem sweep_stop (B : GB) (G : GS) (id : Int) (x : GO) (w : World) (hG : GraphAt w B G) (ho : G.at id = some x) (hs : id = 1 ∨ 0 < x.leads ∨ 0 < x.held) :
    Calls Tryz.prog 50 #[.pointer (some ⟨B.g, 0, none⟩), .int .i64 id] w (Swept w B G [] G) := by
  have HG := Aside0.mk hG
  have c1 := hG.c1
  have hlk := hG.lookAt ho
  have o2 : w.cell? ⟨B.ob id, 2, none⟩ = some (.int .i64 x.leads) := (hG.obj ho).c2
  have o3 : w.cell? ⟨B.ob id, 3, none⟩ = some (.int .i64 x.held) := (hG.obj ho).c3
  clear hG ho
  have fin : Swept w B G [] G (.returned (.slice none 0 0)) w := ⟨_, rfl, World.ownsRow_nil _ _ _ _, HG.out, fun y hy => ⟨y, hy, rfl⟩, SameOn.refl _ _⟩
  have FIN := Aside0.mk fin
  clear fin
  by_cases h1 : id = 1
  · have h1b : (id == 1) = true := by simpa using h1
    clear h1 hs
    go_enter Tryz.func50, Tryz.ntmps50
    go_wp2
    go_ret
    exact FIN.out
  · have h1b : (id == 1) = false := by simpa using h1
    by_cases h2 : 0 < x.leads
    · have h2b : decide (0 < x.leads) = true := decide_eq_true h2
      clear h1 hs h2
      go_enter Tryz.func50, Tryz.ntmps50
      go_wp2
      go_ret
      exact FIN.out
    · have h2b : decide (0 < x.leads) = false := decide_eq_false h2
      have h3b : decide (0 < x.held) = true := decide_eq_true ((hs.resolve_left h1).resolve_left h2)
      clear h1 hs h2
      go_enter Tryz.func50, Tryz.ntmps50
      go_wp2
      go_ret
      exact FIN.out
end
end Go.Proofs.YthifdofdoeaemaaGreatDoor.Wk
end
section
namespace Go.Proofs.YthifdofdoeaemaaGreatDoor.Wk
open Go.RowKit Go.Proofs.YthifdofdoeaemaaGreatDoorW.PrintWords Go.Proofs.YthifdofdoeaemaaGreatDoorW.PrintLast Go.Proofs.YthifdofdoeaemaaGreatDoorW.PrintMore
attribute [local go_sem] max2_int min2_int max_two min_two max_three min_three max_four min_four
set_option linter.unusedVariables false
set_option linter.unusedSimpArgs false
section
open Go.RowKit Go.Lib Go.Maps Go.Proofs.YthifdofdoeaemaaGreatDoorQ
theorem GraphAt.drop {A : World} {B : GB} {G : GS} (h : GraphAt A B G) {id : Int} (hk : keyOf Tryz.prog 3 (.int .i64 id) = some (keyO id)) :
    ∃ W, (Builtin.delete_ #[71, 3] 0 #[.map (some B.mb), .int .i64 id]).run Tryz.prog A = .ok (.tuple #[]) W ∧
      GraphAt W B { G with objs := delO id G.objs } ∧ SameOn (fun k => k ≠ B.mb) A W := by
  obtain ⟨W, hr, hW, ht⟩ := h.objs.drop (int_keyed Tryz.underlying3) Tryz.underlying71 hk 0
  have hg := ht.grown
  rw [del_O] at hW
  have hW2 := own_tight hW
  rw [List.length_map] at hW2
  have hs : ∀ k, k ≠ B.mb → k < A.heap.size → W.heap[k]? = A.heap[k]? := fun k hk hl => hg.block k hl (fun e => hk (by injection e))
  have hmem : ∀ x ∈ delO id G.objs, x ∈ G.objs := fun x hx => (mem_delO.1 hx).1
  refine ⟨W, hr, ?_, ⟨hg.size, fun k h1 h2 => hs k h1 h2, hg.os, hg.tape, hg.output⟩⟩
  exact {
    cell := (hs _ h.g_mb (blk_lt h.cell)).trans h.cell
    objs := hW2
    each := fun x hx => (h.each x (hmem x hx)).step (hs _ (h.ob_mb (hmem x hx)) (blk_lt (h.each x (hmem x hx)).1)) (hs _ (h.lbm x (hmem x hx)) (h.each x (hmem x hx)).2.lt)
    obI := fun x hx y hy e => h.obI x (hmem x hx) y (hmem y hy) e
    lbI := fun x hx y hy e => h.lbI x (hmem x hx) y (hmem y hy) e
    lbm := fun x hx => h.lbm x (hmem x hx)
    ids := fun x hx => h.ids x (hmem x hx) }
end
end Go.Proofs.YthifdofdoeaemaaGreatDoor.Wk
end
section
namespace Go.Proofs.YthifdofdoeaemaaGreatDoor.Wk
open Go.RowKit Go.Proofs.YthifdofdoeaemaaGreatDoorW.PrintWords Go.Proofs.YthifdofdoeaemaaGreatDoorW.PrintLast Go.Proofs.YthifdofdoeaemaaGreatDoorW.PrintMore
attribute [local go_sem] max2_int min2_int max_two min_two max_three min_three max_four min_four
set_option linter.unusedVariables false
set_option linter.unusedSimpArgs false
section
open Go.RowKit Go.Lib
theorem wpList_append_row {P : Program} (w : World) {ops : Array Oper} {rest : List Oper} {o : Oper} {a : Act} {Q : Exit → Act → World → Prop}
    (hg : o.guard = none) (s x : Operand) (t : TypeId) (hop : o.op = Op.call { callee := Callee.builtin Builtin.append, args := #[s, x], argTypes := #[t, t] })
    (base base2 : Nat) (e : TypeId) (i : TypeInfo) (z : Value) (size bytes : Nat) (h1 : P.underlying t = some (.slice e)) (h2 : P.info? e = some i) (h3 : i.zero = some z) (h4 : i.size = size) (h5 : i.bytes = bytes) (h6 : z.cells.size = size) (h7 : 0 < size)
    (v u : Value) (k m : Nat) (xs news : List Value) (hs : a.eval s = v) (hx : a.eval x = u) (hown : w.ownsRow base e size v k xs) (hrow : w.ownsRow base2 e size u m news)
    (h1c : ∀ u ∈ news, u.oneCell' = true) (b1 : k + m ≤ maxLen) (b2 : (k + m) * bytes ≤ 140737488355328) (b3 : base ≤ w.heap.size)
    (hK : ∀ v' w', w'.ownsRow base e size v' (k + m) (xs ++ news) → w.grownBy w' v.ownBlock → (v'.ownBlock = v.ownBlock ∨ v'.ownBlock = some w.heap.size) → wpList P ops Q rest (a.put o.dst v') w') :
    wpList P ops Q (o :: rest) a w := by
  rcases hrow.2 with ⟨rfl, rfl⟩ | ⟨g, cap, cur, rfl, _⟩
  · have hnews : news = [] := List.eq_nil_of_length_eq_zero (by simpa using hrow.1)
    subst hnews
    refine wpList_plain hg fun K hK' => ?_
    have hrun := run_append_owned_none (P := P) w base t o.type e i size h1 h2 _ k xs hown
    unfold Oper.wp
    simp [execOp, hop, resolve, invoke, builtin, hs, hx, hrun, Result.andThen]
    exact hK' _ _ (by simpa using hK v w (by simpa using hown) (World.grownBy.refl _ _) (.inl rfl))
  · exact wpList_append_own_at w hg s x t hop base e i z size bytes h1 h2 h3 h4 h5 h6 h7 v k xs hs hown ⟨g, 0, none⟩ m cap news hx hrow.1 (hrow.cells (g := g) rfl) h1c b1 b2 b3 (fun v' w' a1 a2 _ a4 => hK v' w' a1 a2 a4)
end
end Go.Proofs.YthifdofdoeaemaaGreatDoor.Wk
end
section
namespace Go.Proofs.YthifdofdoeaemaaGreatDoor.Wk
open Go.RowKit Go.Proofs.YthifdofdoeaemaaGreatDoorW.PrintWords Go.Proofs.YthifdofdoeaemaaGreatDoorW.PrintLast Go.Proofs.YthifdofdoeaemaaGreatDoorW.PrintMore
attribute [local go_sem] max2_int min2_int max_two min_two max_three min_three max_four min_four
set_option linter.unusedVariables false
set_option linter.unusedSimpArgs false
section
open Go.RowKit Go.Lib Go.Maps Go.Proofs.YthifdofdoeaemaaGreatDoorQ
attribute [local go_sem] Oper.semAt_some
theorem own_slice {w : World} {base n : Nat} {e : TypeId} {v : Value} {xs : List Value} (h : w.ownsRow base e 1 v n xs) : ∃ A c, v = .slice A n c := by
  rcases h.2 with ⟨rfl, rfl⟩ | ⟨g, cap, cur, rfl, _⟩
  · exact ⟨_, _, rfl⟩
  · exact ⟨_, _, rfl⟩
theorem own_at {w : World} {base n c : Nat} {e : TypeId} {A : Option Addr} {xs : List Value} (h : w.ownsRow base e 1 (.slice A n c) n xs) {i : Nat} (hi : i < n) : ∃ g, A = some ⟨g, 0, none⟩ ∧ base ≤ g ∧ w.cell? ⟨g, i, none⟩ = xs[i]? := by
  rcases h.2 with ⟨_, rfl⟩ | ⟨g, cap, cur, hv, hb, _⟩
  · omega
  · have hA : A = some ⟨g, 0, none⟩ := by cases hv; rfl
    subst hA
    exact ⟨g, rfl, hb, h.cellAt i (by omega)⟩
theorem row_same {w w' : World} {base n size : Nat} {e : TypeId} {v : Value} {xs : List Value} {S : Nat → Prop} (h : w.ownsRow base e size v n xs) (hs : SameOn S w w') (hS : ∀ k, v.ownBlock = some k → S k) : w'.ownsRow base e size v n xs :=
  own_move h (fun k hk => hs.same k (hS k hk) (h.lt k hk).2)
set_option maxHeartbeats 8000000 in
set_option maxRecDepth 100000 in
theorem sweep_go (rec : GS → Int → Option (List Int × GS)) (B : GB)
    (hrec : ∀ (G : GS) (id : Int) (r : List Int) (G2 : GS) (w : World), GraphAt w B G → rec G id = some (r, G2) → Calls Tryz.prog 50 #[.pointer (some ⟨B.g, 0, none⟩), .int .i64 id] w (Swept w B G r G2))
    (G : GS) (id : Int) (x : GO) (w : World) (hG : GraphAt w B G) (ho : G.at id = some x) (hs : ¬ (id = 1 ∨ 0 < x.leads ∨ 0 < x.held)) (hb : x.links.length ≤ bound) (r : List Int) (G2 : GS) (h : cutAll rec id x.links ([id], G) = some (r, G2)) :
    Calls Tryz.prog 50 #[.pointer (some ⟨B.g, 0, none⟩), .int .i64 id] w (Swept w B G r { G2 with objs := delO id G2.objs }) := by
  have HG := Aside0.mk hG
  have c1 := hG.c1
  have hlk := hG.lookAt ho
  have o2 : w.cell? ⟨B.ob id, 2, none⟩ = some (.int .i64 x.leads) := (hG.obj ho).c2
  have o3 : w.cell? ⟨B.ob id, 3, none⟩ = some (.int .i64 x.held) := (hG.obj ho).c3
  have o1 : ∀ o, (w.alloc o).cell? ⟨B.ob id, 1, none⟩ = some (.map (some (B.lb id))) := fun o => ((hG.below (below_alloc (Below.refl _ _) o)).obj ho).c1
  have h1b : (id == 1) = false := by simpa using (fun q => hs (.inl q) : ¬ id = 1)
  have h2b : decide (0 < x.leads) = false := decide_eq_false (fun q => hs (.inr (.inl q)))
  have h3b : decide (0 < x.held) = false := decide_eq_false (fun q => hs (.inr (.inr q)))
  have HO := Aside0.mk ho
  have H := Aside0.mk h
  clear hG ho hs h
  go_enter Tryz.func50, Tryz.ntmps50
  go_upto_region 5 with (fail)
  obtain ⟨w1, hw1⟩ : ∃ w1, w1 = w.alloc (.cells #[.int .i64 id] 3 (0, 0)) := ⟨_, rfl⟩
  have p1 : w1.cell? ⟨B.ob id, 1, none⟩ = some (.map (some (B.lb id))) := by rw [hw1]; exact o1 _
  have hob1 : w1.ownsMap Tryz.prog 9 readL (B.lb id) x.links.length (.map (x.links.map encL)) := by rw [hw1]; exact ((HG.out.below (below_alloc (Below.refl _ _) _)).obj HO.out).2
  have HOB := Aside0.mk hob1
  have HW1 := Aside0.mk hw1
  rw [← hw1]
  clear hw1 hob1 o1 o2 o3 hlk c1
  go_wp2_with (first
    | (go_at_call 78; refine (keysL_calls _ _).mono ?_; rintro e_ w2 ⟨rfl, rfl⟩)
    | (go_at_call 77; refine (sortedL_calls (B.lb id) _ x.links _ HOB.out hb).mono ?_; rintro e_ w3 ⟨v3, rfl, hrow3, hb3⟩; obtain ⟨A3, k3, rfl⟩ := own_slice hrow3; have HR3 := Aside0.mk hrow3; have HB3 := Aside0.mk hb3; clear hrow3 hb3))
  have hbw : Below w.heap.size w w3 := by
    have h1 := HB3.out
    rw [HW1.out] at h1
    exact (below_alloc (below_alloc (Below.refl _ _) _) _).trans (h1.mono (by simp; omega))
  have hblk : w3.heap[w.heap.size]? = some (.cells #[.int .i64 id] 3 (0, 0)) := by
    have h1 := HB3.out
    rw [HW1.out] at h1
    exact (h1.block _ (by simp; omega)).trans (blk_alloc (World.alloc_heap_new _ _) _)
  have HBW := Aside0.mk hbw
  have HBLK := Aside0.mk hblk
  clear hbw hblk
  obtain ⟨i0, hi0, hz0, hz1, hz2⟩ := info_parts (P := Tryz.prog) (e := 3) (z := .int .i64 0) (size := 1) (bytes := 8) (by kernel_rfl)
  have HIN := Aside0.mk hi0
  have HZ := Aside0.mk (And.intro hz0 (And.intro hz1 hz2))
  clear hi0 hz0 hz1 hz2
  go_loopg [40, 6] x.links.length (fun kq v40 v6 W => ∃ (i : Nat) (acc : List Int) (Gi : GS), v40 = .int .i64 (i : Int) ∧ Aside0 (i ≤ x.links.length ∧ x.links.length - i ≤ kq) ∧ Aside0 (cutAll rec id (x.links.drop i) (acc, Gi) = some (r, G2)) ∧ Aside0 (GraphAt W B Gi) ∧
    Aside0 (∀ y ∈ Gi.objs, ∃ z ∈ G.objs, y.1 = z.1) ∧ Aside0 (W.ownsRow w.heap.size 3 1 v6 acc.length (acc.map (.int .i64))) ∧ Aside0 (SameOn (fun k => ¬ foot B G k ∧ k ≠ w.heap.size) w3 W) ∧ Aside0 (∀ k, v6.ownBlock = some k → k = w.heap.size ∨ w3.heap.size ≤ k))
  case atStart => exact ⟨0, [id], G, rfl, ⟨Nat.zero_le _, by omega⟩, H, ⟨HG.out.below HBW.out⟩, ⟨fun y hy => ⟨y, hy, rfl⟩⟩, ⟨⟨rfl, .inr ⟨w.heap.size, 1, #[.int .i64 id], rfl, Nat.le_refl _, HBLK.out, Nat.le_refl _, by decide, rfl, rfl⟩⟩⟩, ⟨SameOn.refl _ _⟩, ⟨fun k hk => .inl (by simpa [Value.ownBlock] using hk.symm)⟩⟩
  case round =>
    obtain ⟨i, acc, Gi, rfl, HI, HC, HGI, HK, HOUT, HS, HOB6⟩ := hrel
    have hsz1 : w1.heap.size = w.heap.size + 1 := by rw [HW1.out]; simp
    have hsz3 : w1.heap.size + 1 ≤ w3.heap.size := by have := HB3.out.size; simp only [World.size_alloc] at this; exact this
    have hszr : w3.heap.size ≤ wr.heap.size := HS.out.size
    by_cases hlt : i < x.links.length
    · obtain ⟨k, hk⟩ : ∃ k, x.links[i]'hlt = k := ⟨_, rfl⟩
      have hkm : k ∈ x.links := hk ▸ List.getElem_mem _
      obtain ⟨g3, hA, hg3, hc3⟩ := own_at HR3.out (i := i) hlt
      have hc3' : w3.cell? ⟨g3, i, none⟩ = some (.string k.1) := by rw [hc3]; simp [hlt, hk]
      have hg3l : g3 < w3.heap.size := World.block_lt_of_cell? w3 _ hc3'
      have hS3 : ¬ foot B G g3 ∧ g3 ≠ w.heap.size := ⟨fun hf => by have := HG.out.foot_lt hf; omega, by omega⟩
      obtain ⟨ad, had⟩ : ∃ ad : Addr, ad = ⟨g3, 0, none⟩ := ⟨_, rfl⟩
      have hcell : wr.cell? (ad.add i) = some (.string k.1) := by rw [had, Addr.add_lit, Nat.zero_add]; exact same_cell HS.out hS3 hc3'
      rw [← had] at hA
      subst hA
      have hs := HC.out
      rw [List.drop_eq_getElem_cons hlt, hk] at hs
      unfold cutAll at hs
      simp only at hs
      cases hcut : cutG rec Gi id k.1 with
      | none => rw [hcut] at hs; cases hs
      | some rj =>
        obtain ⟨r1, Gj⟩ := rj
        rw [hcut] at hs
        simp only at hs
        by_cases hbnd : acc.length + r1.length ≤ bound
        rotate_left
        · rw [if_neg hbnd] at hs; cases hs
        rw [if_pos hbnd] at hs
        obtain ⟨oi, hoi⟩ : ∃ oi, Gi.at id = some oi := by
          cases e : Gi.at id with
          | none => unfold cutG at hcut; rw [e] at hcut; cases hcut
          | some oi => exact ⟨oi, rfl⟩
        have HCUT := Aside0.mk hcut
        have HNEXT := Aside0.mk hs
        have HBND := Aside0.mk hbnd
        have HOI := Aside0.mk hoi
        have HKEY := Aside0.mk (own_key HOB.out hkm)
        have HSZ := Aside0.mk (And.intro hsz1 (And.intro hsz3 hszr))
        have p1 : (0 : Int) ≤ (i : Int) := Int.natCast_nonneg i
        have q1 : (i : Int) < (x.links.length : Int) := by omega
        have q2 : decide ((i : Int) < (x.links.length : Int)) = true := decide_eq_true q1
        have hw1 : wrap64 ((i : Int) + 1) = i + 1 := by unfold bound at hb; unfold wrap64; omega
        replace p1 := eq_true p1
        replace q1 := eq_true q1
        clear hc3 hc3' hg3l hg3 hS3 had hs hcut hoi hbnd hsz1 hsz3 hszr p1
        have p1 : (0 : Int) ≤ (i : Int) := Int.natCast_nonneg i
        go_wp2_with (first
          | (go_at_call 45; refine (cut_calls rec B hrec Gi id oi k.1 _ HGI.out HOI.out HKEY.out r1 Gj HCUT.out).mono ?_; rintro e_ w4 ⟨v4, rfl, hr4, hg4, hk4, hs4⟩; have HR4 := Aside0.mk hr4; have HG4 := Aside0.mk hg4; have HK4 := Aside0.mk hk4; have HS4 := Aside0.mk hs4; clear hr4 hg4 hk4 hs4)
          | (at_builtin; refine wpList_append_row _ rfl _ _ 32 rfl w.heap.size wr.heap.size 3 i0 (.int .i64 0) 1 8 Tryz.underlying32 HIN.out HZ.out.1 HZ.out.2.1 HZ.out.2.2 rfl (by decide) u6 v4 acc.length r1.length _ _ rfl rfl (row_same HOUT.out HS4.out (fun q hq hf => by have := HOB6.out q hq; have := HSZ.out; have := HG.out.foot_lt (foot_keys HK.out hf); omega)) HR4.out (by simp [Value.oneCell']) (by have := HBND.out; unfold bound at this; unfold maxLen; omega) (by have := HBND.out; unfold bound at this; omega) (by have := HSZ.out; have := HS4.out.size; omega) ?_; intro v5 w5 hown5 hgrow5 hat5; have HOWN5 := Aside0.mk hown5; have HGROW5 := Aside0.mk hgrow5; have HAT5 := Aside0.mk hat5; clear hown5 hgrow5 hat5))
        go_roundg (gk - 1)
        case measure => have := HI.out; omega
        case rel =>
          have hblk : ∀ q, q < w3.heap.size → q ≠ w.heap.size → some q ≠ u6.ownBlock := fun q h1 h2 e => by have := HOB6.out q e.symm; omega
          have hfl : ∀ q, foot B Gj q → q < w.heap.size := fun q hf => HG.out.foot_lt (foot_keys HK.out (foot_keys HK4.out hf))
          have hz := HSZ.out
          have hz4 := HS4.out.size
          have h34 : SameOn (fun k => ¬ foot B G k ∧ k ≠ w.heap.size) w3 w4 := HS.out.trans (HS4.out.mono (fun k hk hf => hk.1 (foot_keys HK.out hf)))
          refine ⟨i + 1, acc ++ r1, Gj, by rw [hw1]; rfl, ⟨by omega, by have := HI.out; omega⟩, HNEXT, ⟨HG4.out.step (fun q hf hl => HGROW5.out.block q hl (hblk q (by have := hfl q hf; omega) (by have := hfl q hf; omega)))⟩, ⟨fun y hy => ?_⟩, ⟨?_⟩, ⟨⟨Nat.le_trans h34.size HGROW5.out.size, fun q hq hl => ?_, HGROW5.out.os.trans h34.os, HGROW5.out.tape.trans h34.tape, HGROW5.out.output.trans h34.output⟩⟩, ⟨fun q hq => ?_⟩⟩
          · obtain ⟨z, hz, e⟩ := HK4.out y hy
            obtain ⟨z', hz', e'⟩ := HK.out z hz
            exact ⟨z', hz', e.trans e'⟩
          · rw [List.map_append, List.length_append]
            exact HOWN5.out
          · exact (HGROW5.out.block q (by omega) (hblk q hl hq.2)).trans (h34.same q hq hl)
          · rcases HAT5.out with e | e
            · exact HOB6.out q (e ▸ hq)
            · rw [e] at hq
              have : w4.heap.size = q := by simpa using hq
              exact .inr (by omega)
    · have hi : i = x.links.length := by have := HI.out; omega
      have hs := HC.out
      rw [hi, List.drop_length] at hs
      obtain ⟨rfl, rfl⟩ : acc = r ∧ Gi = G2 := by
        unfold cutAll at hs
        simpa using hs
      have q2 : decide ((i : Int) < (x.links.length : Int)) = false := decide_eq_false (by omega)
      have q1 : ((i : Int) < (x.links.length : Int)) = False := eq_false (by omega)
      obtain ⟨W2, hr2, hG2, hs2⟩ := HGI.out.drop (HG.out.key HO.out)
      have cg1 : wr.cell? ⟨B.g, 1, none⟩ = some (.map (some B.mb)) := HGI.out.c1
      have HG2 := Aside0.mk hG2
      have HS2 := Aside0.mk hs2
      clear hs hG2 hs2
      go_wp2
      go_ret
      have hbm : B.mb < w.heap.size := HG.out.foot_lt (.inr (.inl rfl))
      have hz := HBW.out.size
      refine ⟨_, rfl, row_same HOUT.out HS2.out (fun q hq e => by have := (HOUT.out.lt q hq).1; omega), HG2.out, fun y hy => HK.out y (mem_delO.1 hy).1, ⟨?_, fun q hq hl => ?_, ?_, ?_, ?_⟩⟩
      · exact Nat.le_trans hz (Nat.le_trans HS.out.size HS2.out.size)
      · exact ((HS2.out.same q (fun e => hq (.inr (.inl e))) (by have := HS.out.size; omega)).trans (HS.out.same q ⟨hq, by omega⟩ (by omega))).trans (HBW.out.block q hl)
      · exact HS2.out.os.trans (HS.out.os.trans HBW.out.os)
      · exact HS2.out.tape.trans (HS.out.tape.trans HBW.out.tape)
      · exact HS2.out.output.trans (HS.out.output.trans HBW.out.output)
theorem sweep_calls : ∀ (n : Nat) (B : GB) (G : GS) (id : Int) (r : List Int) (G2 : GS) (w : World), GraphAt w B G → sweepG n G id = some (r, G2) →
    Calls Tryz.prog 50 #[.pointer (some ⟨B.g, 0, none⟩), .int .i64 id] w (Swept w B G r G2)
  | 0, _, _, _, _, _, _, _, h => by cases h
  | n + 1, B, G, id, r, G2, w, hG, h => by
    unfold sweepG at h
    cases ho : G.at id with
    | none => rw [ho] at h; cases h
    | some x =>
      rw [ho] at h
      simp only at h
      by_cases hs : id = 1 ∨ 0 < x.leads ∨ 0 < x.held
      · rw [if_pos hs] at h
        cases h
        exact sweep_stop B G id x w hG ho hs
      · rw [if_neg hs] at h
        by_cases hb : x.links.length ≤ bound
        rotate_left
        · rw [if_neg hb] at h; cases h
        rw [if_pos hb] at h
        cases hc : cutAll (sweepG n) id x.links ([id], G) with
        | none => rw [hc] at h; cases h
        | some c =>
          rw [hc] at h
          cases h
          exact sweep_go (sweepG n) B (sweep_calls n B) G id x w hG ho hs hb c.1 c.2 hc
end
end Go.Proofs.YthifdofdoeaemaaGreatDoor.Wk
end
section
namespace Go.Proofs.YthifdofdoeaemaaGreatDoor.Wk
open Go.RowKit Go.Proofs.YthifdofdoeaemaaGreatDoorW.PrintWords Go.Proofs.YthifdofdoeaemaaGreatDoorW.PrintLast Go.Proofs.YthifdofdoeaemaaGreatDoorW.PrintMore
attribute [local go_sem] max2_int min2_int max_two min_two max_three min_three max_four min_four
set_option linter.unusedVariables false
set_option linter.unusedSimpArgs false
section
open Go.RowKit Go.Lib Go.Maps Go.Sort Go.Proofs.YthifdofdoeaemaaGreatDoorQ
attribute [local go_sem] Oper.semAt_some
theorem sortI_calls (base : Nat) (v : Value) (r : List Int) (w : World) (h : w.ownsRow base 3 1 v r.length (r.map (.int .i64))) (hb : r.length ≤ bound) :
    Calls Tryz.prog 46 #[v] w fun e w' => e = .returned (.tuple #[]) ∧ w'.ownsRow base 3 1 v (sortI r).length ((sortI r).map (.int .i64)) ∧ w.grownBy w' v.ownBlock := by
  have hl : (sortI r).length = r.length := List.length_mergeSort r
  rcases h.2 with ⟨rfl, h0⟩ | ⟨g, cap, cur, rfl, hbase, hg, h1, h2, h3, h4⟩
  · have h0' : r = [] := List.eq_nil_of_length_eq_zero h0
    subst h0'
    refine (Tryz.slices_Sort_int_none none 0 w).mono ?_
    rintro e w' ⟨rfl, rfl⟩
    have e0 : sortI [] = [] := by unfold sortI; simp
    rw [e0]
    exact ⟨rfl, World.ownsRow_nil _ _ _ _, World.grownBy.refl _ _⟩
  · refine (Tryz.slices_Sort_int g 0 cap r w (holds_of_blockI hg (by simpa using h4)) (blk_lt hg) (by unfold bound at hb; omega)).mono ?_
    rintro e w' ⟨rfl, n, os, rfl⟩
    refine ⟨rfl, ?_, grownBy_sortedI _⟩
    have := ownsRow_sortedI (n := n) (os := os) (ts := sortI r) hl hbase hg h1 h2 h3
    rw [hl]
    exact this
set_option maxHeartbeats 8000000 in
set_option maxRecDepth 100000 in
theorem unlink_calls (n : Nat) (B : GB) (G : GS) (p : ByteArray) (w : World) (hl : Lay w) (hG : GraphAt w B G) (r : List Int) (e : Int) (G2 : GS) (h : unlinkG n G p = some (r, e, G2)) :
    Calls Tryz.prog 18 #[.pointer (some ⟨B.g, 0, none⟩), .string p] w fun ev w' => ∃ v, ev = .returned (.tuple #[v, .int .i64 e]) ∧
      w'.ownsRow w.heap.size 3 1 v r.length (r.map (.int .i64)) ∧ GraphAt w' B G2 ∧ (∀ y ∈ G2.objs, ∃ z ∈ G.objs, y.1 = z.1) ∧ SameOn (fun k => ¬ foot B G k) w w' := by
  have HL := Aside0.mk hl
  have HG := Aside0.mk hG
  unfold unlinkG at h
  clear hl hG
  cases hpl : placeG G p 2 with
  | none => rw [hpl] at h; cases h
  | some q =>
    obtain ⟨pid, pn, pe⟩ := q
    rw [hpl] at h
    simp only at h
    have hsm := placeG_small hpl
    have HPL := Aside0.mk hpl
    clear hpl
    by_cases hpe : pe = 0
    · subst hpe
      rw [if_pos rfl] at h
      cases ho : G.at pid with
      | none => rw [ho] at h; cases h
      | some x =>
        rw [ho] at h
        simp only at h
        have HO := Aside0.mk ho
        have HK := Aside0.mk (key_string pn hsm)
        clear ho hsm
        have hv : placeV B pid 0 = .pointer (some ⟨B.ob pid, 0, none⟩) := if_pos rfl
        cases hln : lnk x.links pn with
        | some k =>
          rw [hln] at h
          simp only [Option.isSome_some, if_true] at h
          cases hc : cutG (sweepG n) G pid pn with
          | none => rw [hc] at h; cases h
          | some c =>
            obtain ⟨c1, c2⟩ := c
            rw [hc] at h
            simp only at h
            by_cases hb : c1.length ≤ bound
            rotate_left
            · rw [if_neg hb] at h; cases h
            rw [if_pos hb] at h
            obtain ⟨rfl, rfl, rfl⟩ : sortI c1 = r ∧ (0 : Int) = e ∧ c2 = G2 := by simpa using h
            have HC := Aside0.mk hc
            have HB := Aside0.mk hb
            clear h hc hb
            go_enter Tryz.func18, Tryz.ntmps18
            go_wp2_with (first
              | (go_at_call 39; refine (good_calls B G _ HG.out).mono ?_; rintro e_ w0 ⟨rfl, h0⟩; obtain rfl := h0.symm)
              | (go_at_call 44; refine (place_calls B G p 2 _ HL.out HG.out (by decide) pid 0 pn HPL.out).mono ?_; rintro e_ w1 ⟨rfl, hw1⟩; have HW1 := Aside0.mk hw1; have HG1 := Aside0.mk (HG.out.below hw1); have co1 := (HG1.out.obj HO.out).c1; have hlk2 := (HG1.out.obj HO.out).look pn (Tryz.zeroValue42 w1) HK.out; simp only [hln, Option.isSome_some] at hlk2; simp only [] at co1; clear hw1)
              | (go_at_call 45; refine (cut_calls (sweepG n) B (sweep_calls n B) G pid x pn _ (HG1.out.below (below_alloc (Below.refl _ _) _)) HO.out HK.out c1 c2 HC.out).mono ?_; rintro e_ w3 ⟨v3, rfl, hr3, hg3, hk3, hs3⟩; have HR3 := Aside0.mk hr3; have HG3 := Aside0.mk hg3; have HK3 := Aside0.mk hk3; have HS3 := Aside0.mk hs3; clear hr3 hg3 hk3 hs3)
              | (go_at_call 46; refine (sortI_calls _ _ c1 _ HR3.out HB.out).mono ?_; rintro e_ w4 ⟨rfl, hr4, hs4⟩; have HR4 := Aside0.mk hr4; have HS4 := Aside0.mk hs4; clear hr4 hs4))
            go_ret2
            have hb1 := HW1.out.size
            have hbel : ∀ o, Below w.heap.size w (w1.alloc o) := fun o => HW1.out.trans ((below_alloc (Below.refl _ _) o).mono hb1)
            have hfl : ∀ q, foot B c2 q → q < w.heap.size := fun q hf => HG.out.foot_lt (foot_keys HK3.out hf)
            have hbk : ∀ q, q < w.heap.size → some q ≠ v3.ownBlock := fun q hq e => by have := (HR3.out.lt q e.symm).1; simp only [World.size_alloc] at this; omega
            have h3 := HS3.out.size
            simp only [World.size_alloc] at h3
            refine ⟨v3, rfl, HR4.out.mono (by simp only [World.size_alloc]; omega), HG3.out.step (fun q hf hl => HS4.out.block q hl (hbk q (hfl q hf))), HK3.out, ⟨?_, fun q hq hl => ?_, ?_, ?_, ?_⟩⟩
            · have := HS4.out.size; omega
            · exact ((HS4.out.block q (by omega) (hbk q hl)).trans (HS3.out.same q hq (by simp only [World.size_alloc]; omega))).trans ((hbel _).block q hl)
            · exact HS4.out.os.trans (HS3.out.os.trans (hbel _).os)
            · exact HS4.out.tape.trans (HS3.out.tape.trans (hbel _).tape)
            · exact HS4.out.output.trans (HS3.out.output.trans (hbel _).output)
        | none =>
          rw [hln] at h
          obtain ⟨rfl, rfl, rfl⟩ : ([] : List Int) = r ∧ (10 : Int) = e ∧ G = G2 := by simpa using h
          clear h
          go_enter Tryz.func18, Tryz.ntmps18
          go_wp2_with (first
            | (go_at_call 39; refine (good_calls B G _ HG.out).mono ?_; rintro e_ w0 ⟨rfl, h0⟩; obtain rfl := h0.symm)
            | (go_at_call 44; refine (place_calls B G p 2 _ HL.out HG.out (by decide) pid 0 pn HPL.out).mono ?_; rintro e_ w1 ⟨rfl, hw1⟩; have HW1 := Aside0.mk hw1; have HG1 := Aside0.mk (HG.out.below hw1); have co1 := (HG1.out.obj HO.out).c1; have hlk2 := (HG1.out.obj HO.out).look pn (Tryz.zeroValue42 w1) HK.out; simp only [hln, Option.isSome_none] at hlk2; simp only [] at co1; clear hw1))
          go_ret2
          have hb : ∀ o, Below w.heap.size w (w1.alloc o) := fun o => HW1.out.trans ((below_alloc (Below.refl _ _) o).mono HW1.out.size)
          exact ⟨_, rfl, World.ownsRow_nil _ _ _ _, HG.out.below (hb _), fun y hy => ⟨y, hy, rfl⟩, SameOn.of_below (hb _)⟩
    · rw [if_neg hpe] at h
      obtain ⟨rfl, rfl, rfl⟩ : ([] : List Int) = r ∧ pe = e ∧ G = G2 := by simpa using h
      have hpb : (pe != 0) = true := by simpa using hpe
      clear h
      go_enter Tryz.func18, Tryz.ntmps18
      go_wp2_with (first
        | (go_at_call 39; refine (good_calls B G _ HG.out).mono ?_; rintro e_ w0 ⟨rfl, h0⟩; obtain rfl := h0.symm)
        | (go_at_call 44; refine (place_calls B G p 2 _ HL.out HG.out (by decide) pid pe pn HPL.out).mono ?_; rintro e_ w1 ⟨rfl, hw1⟩; have HW1 := Aside0.mk hw1; clear hw1))
      go_ret2
      exact ⟨_, rfl, World.ownsRow_nil _ _ _ _, HG.out.below HW1.out, fun y hy => ⟨y, hy, rfl⟩, SameOn.of_below HW1.out⟩
end
end Go.Proofs.YthifdofdoeaemaaGreatDoor.Wk
end
section
namespace Go.Proofs.YthifdofdoeaemaaGreatDoor.Wk
open Go.RowKit Go.Proofs.YthifdofdoeaemaaGreatDoorW.PrintWords Go.Proofs.YthifdofdoeaemaaGreatDoorW.PrintLast Go.Proofs.YthifdofdoeaemaaGreatDoorW.PrintMore
attribute [local go_sem] max2_int min2_int max_two min_two max_three min_three max_four min_four
set_option linter.unusedVariables false
set_option linter.unusedSimpArgs false
section
open Go.RowKit Go.Lib Go.Maps Go.Proofs.YthifdofdoeaemaaGreatDoorQ
def Mine (w0 w : World) (g : Nat) (F : Nat → Prop) (G : GS) : Prop := ∃ B : GB, B.g = g ∧ GraphAt w B G ∧ (∀ k, foot B G k → F k) ∧ (∀ k, F k → w0.heap.size ≤ k ∧ k < w.heap.size) ∧ Below w0.heap.size w0 w
theorem Mine.below {w0 w : World} {g : Nat} {F : Nat → Prop} {G : GS} (h : Mine w0 w g F G) : Below w0.heap.size w0 w := by obtain ⟨B, -, -, -, -, h⟩ := h; exact h
theorem Mine.lay {w0 w : World} {g : Nat} {F : Nat → Prop} {G : GS} (h : Mine w0 w g F G) (hl : Lay w0) : Lay w := lay_below hl h.below
theorem Mine.lt {w0 w : World} {g : Nat} {F : Nat → Prop} {G : GS} (h : Mine w0 w g F G) {k : Nat} (hk : F k) : w0.heap.size ≤ k ∧ k < w.heap.size := by obtain ⟨B, -, -, -, h, -⟩ := h; exact h k hk
theorem Mine.step {w0 w w' : World} {g : Nat} {F : Nat → Prop} {G : GS} (h : Mine w0 w g F G) (hb : Below w.heap.size w w') : Mine w0 w' g F G := by
  obtain ⟨B, h1, h2, h3, h4, h5⟩ := h
  exact ⟨B, h1, h2.below hb, h3, fun k hk => ⟨(h4 k hk).1, Nat.lt_of_lt_of_le (h4 k hk).2 hb.size⟩, h5.trans (hb.mono h5.size)⟩
theorem Mine.same {w0 w w' : World} {g : Nat} {F S : Nat → Prop} {G : GS} (h : Mine w0 w g F G) (hs : SameOn S w w') (hF : ∀ k, F k → S k) (h0 : ∀ k, k < w0.heap.size → S k) : Mine w0 w' g F G := by
  obtain ⟨B, h1, h2, h3, h4, h5⟩ := h
  exact ⟨B, h1, h2.same hs (fun k hk => hF k (h3 k hk)), h3, fun k hk => ⟨(h4 k hk).1, Nat.lt_of_lt_of_le (h4 k hk).2 hs.size⟩, h5.trans (hs.below h0 h5.size)⟩
theorem mine_turn {w0 w w' : World} {B : GB} {F : Nat → Prop} {G G2 : GS} (h : GraphAt w B G) (h3 : ∀ k, foot B G k → F k) (h4 : ∀ k, F k → w0.heap.size ≤ k ∧ k < w.heap.size) (h5 : Below w0.heap.size w0 w) (hG : GraphAt w' B G2) (hs : SameOn (fun k => ¬ foot B G k) w w') (hk : ∀ y ∈ G2.objs, ∃ z ∈ G.objs, y.1 = z.1) :
    Mine w0 w' B.g F G2 ∧ SameOn (fun k => ¬ F k) w w' := by
  have hs2 : SameOn (fun k => ¬ F k) w w' := hs.mono (fun k hk hf => hk (h3 k hf))
  refine ⟨⟨B, rfl, hG, fun k hf => h3 k (foot_keys hk hf), fun k hf => ⟨(h4 k hf).1, Nat.lt_of_lt_of_le (h4 k hf).2 hs.size⟩, ?_⟩, hs2⟩
  exact h5.trans (hs2.below (fun k hk hf => by have := (h4 k hf).1; omega) h5.size)
theorem soft_keys {G G2 : GS} {p t : ByteArray} {e : Int} (h : softG G p t = some (e, G2)) : ∀ y ∈ G2.objs, ∃ z ∈ G.objs, y.1 = z.1 := by
  unfold softG at h
  simp only at h
  split at h
  · split at h
    · cases h
    · split at h
      · cases hp : putG G _ _ with
        | none => rw [hp] at h; cases h
        | some G3 => rw [hp] at h; cases h; exact fun y hy => putG_keys hp hy
      · cases h; exact fun y hy => ⟨y, hy, rfl⟩
  · cases h; exact fun y hy => ⟨y, hy, rfl⟩
theorem link_keys {G G2 : GS} {p t : ByteArray} {e : Int} (h : linkG G p t = some (e, G2)) : ∀ y ∈ G2.objs, ∃ z ∈ G.objs, y.1 = z.1 := by
  unfold linkG at h
  split at h
  · cases h
  · split at h
    · split at h
      · cases h
      · split at h
        · cases h; exact fun y hy => ⟨y, hy, rfl⟩
        · split at h
          · cases h
          · split at h
            · cases hp : putG G _ _ with
              | none => rw [hp] at h; cases h
              | some G3 => rw [hp] at h; cases h; exact fun y hy => putG_keys hp hy
            · cases h; exact fun y hy => ⟨y, hy, rfl⟩
    · cases h; exact fun y hy => ⟨y, hy, rfl⟩
theorem new_mine (w0 w : World) (hb : Below w0.heap.size w0 w) : Calls Tryz.prog 13 #[] w fun ev w' => ∃ g F, ev = .returned (.pointer (some ⟨g, 0, none⟩)) ∧ Mine w0 w' g F newG ∧ (∀ k, F k → w.heap.size ≤ k) ∧ Below w.heap.size w w' := by
  refine (new_calls w).mono ?_
  rintro ev w' ⟨B, rfl, h1, h2, h3⟩
  have hz := hb.size
  exact ⟨B.g, foot B newG, rfl, ⟨B, rfl, h1, fun k hk => hk, fun k hk => ⟨Nat.le_trans hz (h3 k hk), h1.foot_lt hk⟩, hb.trans (h2.mono hz)⟩, h3, h2⟩
theorem find_mine {w0 w : World} {g : Nat} {F : Nat → Prop} {G : GS} (h : Mine w0 w g F G) (hl : Lay w0) (p : ByteArray) {id e : Int} (hf : findG G p = some (id, e)) :
    Calls Tryz.prog 17 #[.pointer (some ⟨g, 0, none⟩), .string p] w fun ev w' => ev = .returned (.tuple #[.int .i64 id, .int .i64 e]) ∧ Below w.heap.size w w' := by
  have hlw := h.lay hl
  obtain ⟨B, rfl, h2, -⟩ := h
  exact find_calls B G p w hlw h2 id e hf
theorem soft_mine {w0 w : World} {g : Nat} {F : Nat → Prop} {G : GS} (h : Mine w0 w g F G) (hl : Lay w0) (p t : ByteArray) {e : Int} {G2 : GS} (hf : softG G p t = some (e, G2)) :
    Calls Tryz.prog 15 #[.pointer (some ⟨g, 0, none⟩), .string p, .string t] w fun ev w' => ev = .returned (.int .i64 e) ∧ Mine w0 w' g F G2 ∧ SameOn (fun k => ¬ F k) w w' := by
  have hlw := h.lay hl
  obtain ⟨B, rfl, h2, h3, h4, h5⟩ := h
  refine (soft_calls B G p t w hlw h2 e G2 hf).mono ?_
  rintro ev w' ⟨rfl, hg, hs⟩
  exact ⟨rfl, mine_turn h2 h3 h4 h5 hg hs (soft_keys hf)⟩
theorem link_mine {w0 w : World} {g : Nat} {F : Nat → Prop} {G : GS} (h : Mine w0 w g F G) (hl : Lay w0) (p t : ByteArray) {e : Int} {G2 : GS} (hf : linkG G p t = some (e, G2)) :
    Calls Tryz.prog 22 #[.pointer (some ⟨g, 0, none⟩), .string p, .string t] w fun ev w' => ev = .returned (.int .i64 e) ∧ Mine w0 w' g F G2 ∧ SameOn (fun k => ¬ F k) w w' := by
  have hlw := h.lay hl
  obtain ⟨B, rfl, h2, h3, h4, h5⟩ := h
  refine (link_calls B G p t w hlw h2 e G2 hf).mono ?_
  rintro ev w' ⟨rfl, hg, hs⟩
  exact ⟨rfl, mine_turn h2 h3 h4 h5 hg hs (link_keys hf)⟩
theorem unlink_mine {w0 w : World} {g : Nat} {F : Nat → Prop} {G : GS} (h : Mine w0 w g F G) (hl : Lay w0) (n : Nat) (p : ByteArray) {r : List Int} {e : Int} {G2 : GS} (hf : unlinkG n G p = some (r, e, G2)) :
    Calls Tryz.prog 18 #[.pointer (some ⟨g, 0, none⟩), .string p] w fun ev w' => ∃ v, ev = .returned (.tuple #[v, .int .i64 e]) ∧ w'.ownsRow w.heap.size 3 1 v r.length (r.map (.int .i64)) ∧ Mine w0 w' g F G2 ∧ SameOn (fun k => ¬ F k) w w' := by
  have hlw := h.lay hl
  obtain ⟨B, rfl, h2, h3, h4, h5⟩ := h
  refine (unlink_calls n B G p w hlw h2 r e G2 hf).mono ?_
  rintro ev w' ⟨v, rfl, hr, hg, hk, hs⟩
  exact ⟨v, rfl, hr, mine_turn h2 h3 h4 h5 hg hs hk⟩
theorem add_mine {w0 w : World} {g : Nat} {F : Nat → Prop} {G : GS} (h : Mine w0 w g F G) (hl : Lay w0) (p : ByteArray) (kind : Int) {id e : Int} {G2 : GS} (hf : addG G p kind = some (id, e, G2)) :
    Calls Tryz.prog 16 #[.pointer (some ⟨g, 0, none⟩), .string p, .int .i64 kind] w fun ev w' => ev = .returned (.tuple #[.int .i64 id, .int .i64 e]) ∧
      ∃ F', Mine w0 w' g F' G2 ∧ (∀ k, F k → F' k) ∧ (∀ k, F' k → F k ∨ w.heap.size ≤ k) ∧ SameOn (fun k => ¬ F k) w w' := by
  have hlw := h.lay hl
  obtain ⟨B, rfl, h2, h3, h4, h5⟩ := h
  refine (add_calls B G p kind w hlw h2 id e G2 hf).mono ?_
  rintro ev w' ⟨rfl, B2, hB2, hg, hk, hs⟩
  have hs2 : SameOn (fun k => ¬ F k) w w' := hs.mono (fun k hk hf => hk (h3 k hf))
  have hz := h5.size
  refine ⟨rfl, fun k => F k ∨ (w.heap.size ≤ k ∧ k < w'.heap.size), ⟨B2, hB2, hg, fun k hf => ?_, fun k hf => ?_, ?_⟩, fun k hf => .inl hf, fun k hf => hf.imp_right (fun a => a.1), hs2⟩
  · rcases hk k hf with h | h
    · exact .inl (h3 k h)
    · exact .inr ⟨h, hg.foot_lt hf⟩
  · rcases hf with hf | hf
    · exact ⟨(h4 k hf).1, Nat.lt_of_lt_of_le (h4 k hf).2 hs.size⟩
    · exact ⟨by omega, hf.2⟩
  · exact h5.trans (hs2.below (fun k hk hf => by have := (h4 k hf).1; omega) h5.size)
end
end Go.Proofs.YthifdofdoeaemaaGreatDoor.Wk
end
section
namespace Go.Proofs.YthifdofdoeaemaaGreatDoor.Wk
open Go.RowKit Go.Proofs.YthifdofdoeaemaaGreatDoorW.PrintWords Go.Proofs.YthifdofdoeaemaaGreatDoorW.PrintLast Go.Proofs.YthifdofdoeaemaaGreatDoorW.PrintMore
attribute [local go_sem] max2_int min2_int max_two min_two max_three min_three max_four min_four
set_option linter.unusedVariables false
set_option linter.unusedSimpArgs false
section
open Go.RowKit Go.Lib
def slabvaultlaw18_ints.l0 : Nat → List Int → List Int → Int → Option (Bool)
  | 0, _, _, _ => none
  | k + 1, x0, x1, x5 => if x5 < (x0.length : Int) then (if 0 ≤ x5 then (if x5 < (x1.length : Int) then (if (rd x0 x5) = (rd x1 x5) then (slabvaultlaw18_ints.l0 k x0 x1 (wrap64 (x5 + 1))) else (some false)) else (none)) else (none)) else (some true)
def slabvaultlaw18_ints.f (k : Nat) (l0 : List Int) (l1 : List Int) : Option (Bool) := if (l0.length : Int) = (l1.length : Int) then (slabvaultlaw18_ints.l0 k l0 l1 0) else (some false)
theorem slabvaultlaw18_ints.mono_l : ∀ k, (∀ y0 y1 y2, LeO (slabvaultlaw18_ints.l0 k y0 y1 y2) (slabvaultlaw18_ints.l0 (k + 1) y0 y1 y2))
  | 0 => fun _ _ _ r h => by simp [slabvaultlaw18_ints.l0] at h
  | k + 1 => by
    have ih0 := slabvaultlaw18_ints.mono_l k
    · intro y0 y1 y2
      unfold slabvaultlaw18_ints.l0
      repeat' first
      | (with_reducible exact ih0 _ _ _)
      | (with_reducible exact LeO.refl _)
      | (with_reducible exact LeO.none _)
      | (with_reducible refine LeO.ite ?_ ?_)
      | (with_reducible refine LeO.bind ?_ (fun _ => ?_))
      | exact ih0 _ _ _
      | exact LeO.none _
      | refine LeO.ite ?_ ?_
      | refine LeO.bind ?_ (fun _ => ?_)
theorem slabvaultlaw18_ints.mono : ∀ a0 a1 k, LeO (slabvaultlaw18_ints.f k a0 a1) (slabvaultlaw18_ints.f (k + 1) a0 a1) := by
  intro a0 a1 k
  have ih0 := slabvaultlaw18_ints.mono_l k
  unfold slabvaultlaw18_ints.f
  repeat' first
      | (with_reducible exact ih0 _ _ _)
      | (with_reducible exact LeO.refl _)
      | (with_reducible exact LeO.none _)
      | (with_reducible refine LeO.ite ?_ ?_)
      | (with_reducible refine LeO.bind ?_ (fun _ => ?_))
      | exact ih0 _ _ _
      | exact LeO.none _
      | refine LeO.ite ?_ ?_
      | refine LeO.bind ?_ (fun _ => ?_)
set_option maxHeartbeats 8000000 in
set_option maxRecDepth 100000 in
theorem slabvaultlaw18_ints.calls (k : Nat) (A0 : Option Addr) (c0 : Nat) (l0 : List Int) (A1 : Option Addr) (c1 : Nat) (l1 : List Int) (r : Bool) (w : World) (hr0 : Kd.C (Kd.int .i64) w A0 l0.length l0) (hc0 : l0.length ≤ c0) (hr1 : Kd.C (Kd.int .i64) w A1 l1.length l1) (hc1 : l1.length ≤ c1) (h : slabvaultlaw18_ints.f k l0 l1 = some r) :
    Calls Tryz.prog 33 #[.slice A0 l0.length c0, .slice A1 l1.length c1] w fun e w' => e = .returned (.bool r) ∧ Drawn0 w w' := by
  have HR0 := Aside0.mk hr0
  have HC0 := Aside0.mk hc0
  clear hr0 hc0
  have HR1 := Aside0.mk hr1
  have HC1 := Aside0.mk hc1
  clear hr1 hc1
  have H : (if (l0.length : Int) = (l1.length : Int) then (slabvaultlaw18_ints.l0 k l0 l1 0) else (some false)) = some r := h
  clear h
  by_cases c3 : (l0.length : Int) = (l1.length : Int)
  · rw [if_pos c3] at H
    have c3b0 : ((l0.length : Int) == (l1.length : Int)) = true := beq_iff_eq.mpr c3
    have c3b1 : ((l0.length : Int) != (l1.length : Int)) = false := bne_eq_false_iff_eq.mpr c3
    have c3b2 : (l0.length == l1.length) = true := by first | simpa using c3 | (simp at c3 ⊢; omega)
    clear c3
    have H' := Aside0.mk H
    clear H
    go_enter Tryz.func33, Tryz.ntmps33
    go_wp2
    repeat (go_quiet (fail); try go_wp2)
    go_loopg [5] k (fun kq v5 w' => ∃ (x5_1 : Int), v5 = .int .i64 x5_1 ∧ Aside0 (slabvaultlaw18_ints.l0 kq l0 l1 x5_1 = some r) ∧ Aside0 (kq ≤ k) ∧ Drawn0 w w')
    case atStart => exact ⟨(0), (by first | rfl | (simp; done) | (simp [*]; done)), H', ⟨Nat.le_refl _⟩, by repeat (first | exact Drawn0.refl _ | apply Drawn0.step)⟩
    case round =>
      clear H'
      try clear c1
      try clear p2
      try clear c3
      try clear c3b0
      try clear c3b1
      try clear c3b2
      obtain ⟨x5_1, rfl, HA, HK1, ⟨m1, rfl⟩⟩ := hrel
      cases gk with
      | zero => exact absurd HA.out (by simp [slabvaultlaw18_ints.l0])
      | succ k1 =>
        have H := HA.out
        clear HA
        simp only [slabvaultlaw18_ints.l0] at H
        by_cases c4 : x5_1 < (l0.length : Int)
        · rw [if_pos c4] at H
          have c4b0 : decide (x5_1 < (l0.length : Int)) = true := decide_eq_true c4
          clear c4
          by_cases c5 : 0 ≤ x5_1
          · rw [if_pos c5] at H
            have c5b0 : decide (0 ≤ x5_1) = true := decide_eq_true c5
            clear c5
            by_cases c6 : x5_1 < (l1.length : Int)
            · rw [if_pos c6] at H
              have c6b0 : decide (x5_1 < (l1.length : Int)) = true := decide_eq_true c6
              clear c6
              by_cases c7 : (rd l0 x5_1) = (rd l1 x5_1)
              · rw [if_pos c7] at H
                have c7b0 : ((rd l0 x5_1) == (rd l1 x5_1)) = true := beq_iff_eq.mpr c7
                have c7b1 : ((rd l0 x5_1) != (rd l1 x5_1)) = false := bne_eq_false_iff_eq.mpr c7
                clear c7
                have H' := Aside0.mk H
                clear H
                have p341 : 0 ≤ (x5_1 : Int) := of_decide_eq_true (by first | (with_reducible assumption) | assumption)
                have q341 : x5_1 < (l0.length : Int) := of_decide_eq_true (by first | (with_reducible assumption) | assumption)
                obtain ⟨ad341, e341, hx341_0⟩ := Kd.at_int HR0.out x5_1 p341 q341
                cases e341
                replace p341 := eq_true p341
                replace q341 := eq_true q341
                have p342 : 0 ≤ (x5_1 : Int) := of_decide_eq_true (by first | (with_reducible assumption) | assumption)
                have q342 : x5_1 < (l1.length : Int) := of_decide_eq_true (by first | (with_reducible assumption) | assumption)
                obtain ⟨ad342, e342, hx342_0⟩ := Kd.at_int HR1.out x5_1 p342 q342
                cases e342
                replace p342 := eq_true p342
                replace q342 := eq_true q342
                go_wp2
                repeat (go_quiet (fail); try go_wp2)
                go_roundg k1
                case measure => have := HK1.out; omega
                case rel => exact ⟨(wrap64 (x5_1 + 1)), (by first | rfl | (simp; done) | (simp [*]; done)), H', ⟨by have := HK1.out; omega⟩, by repeat (first | exact Drawn0.refl _ | apply Drawn0.step)⟩
              · rw [if_neg c7] at H
                have c7b0 : ((rd l0 x5_1) == (rd l1 x5_1)) = false := beq_eq_false_iff_ne.mpr c7
                have c7b1 : ((rd l0 x5_1) != (rd l1 x5_1)) = true := bne_iff_ne.mpr c7
                obtain rfl := Option.some.inj H
                have p341 : 0 ≤ (x5_1 : Int) := of_decide_eq_true (by first | (with_reducible assumption) | assumption)
                have q341 : x5_1 < (l0.length : Int) := of_decide_eq_true (by first | (with_reducible assumption) | assumption)
                obtain ⟨ad341, e341, hx341_0⟩ := Kd.at_int HR0.out x5_1 p341 q341
                cases e341
                replace p341 := eq_true p341
                replace q341 := eq_true q341
                have p342 : 0 ≤ (x5_1 : Int) := of_decide_eq_true (by first | (with_reducible assumption) | assumption)
                have q342 : x5_1 < (l1.length : Int) := of_decide_eq_true (by first | (with_reducible assumption) | assumption)
                obtain ⟨ad342, e342, hx342_0⟩ := Kd.at_int HR1.out x5_1 p342 q342
                cases e342
                replace p342 := eq_true p342
                replace q342 := eq_true q342
                go_wp2
                repeat (go_quiet (fail); try go_wp2)
                go_ret
                exact ⟨by first | rfl | (simp; done) | (simp [*]; done), by repeat (first | exact Drawn0.refl _ | apply Drawn0.step)⟩
            · rw [if_neg c6] at H
              exact absurd H (by simp)
          · rw [if_neg c5] at H
            exact absurd H (by simp)
        · rw [if_neg c4] at H
          have c4b0 : decide (x5_1 < (l0.length : Int)) = false := decide_eq_false c4
          clear c4
          obtain rfl := Option.some.inj H
          go_wp2
          repeat (go_quiet (fail); try go_wp2)
          go_ret
          exact ⟨by first | rfl | (simp; done) | (simp [*]; done), by repeat (first | exact Drawn0.refl _ | apply Drawn0.step)⟩
  · rw [if_neg c3] at H
    have c3b0 : ((l0.length : Int) == (l1.length : Int)) = false := beq_eq_false_iff_ne.mpr c3
    have c3b1 : ((l0.length : Int) != (l1.length : Int)) = true := bne_iff_ne.mpr c3
    have c3b2 : (l0.length == l1.length) = false := by first | simpa using c3 | (simp at c3 ⊢; omega)
    obtain rfl := Option.some.inj H
    go_enter Tryz.func33, Tryz.ntmps33
    go_wp2
    repeat (go_quiet (fail); try go_wp2)
    go_ret
    exact ⟨by first | rfl | (simp; done) | (simp [*]; done), by repeat (first | exact Drawn0.refl _ | apply Drawn0.step)⟩
theorem ints_l0 (l0 l1 : List Int) (hl : l0.length = l1.length) (hb : l0.length < 4611686018427387904) : ∀ (n i : Nat), l0.length - i < n → i ≤ l0.length → slabvaultlaw18_ints.l0 n l0 l1 (i : Int) = some (decide (l0.drop i = l1.drop i))
  | 0, i, h, _ => absurd h (by omega)
  | n + 1, i, h, hi => by
    unfold slabvaultlaw18_ints.l0
    by_cases hlt : i < l0.length
    · rw [if_pos (by omega), if_pos (by omega), if_pos (by omega)]
      have e0 : rd l0 (i : Int) = l0[i] := by simp [rd, hlt]
      have hlt1 : i < l1.length := by omega
      have e1 : rd l1 (i : Int) = l1[i] := by simp [rd, hlt1]
      rw [e0, e1, show l0.drop i = l0[i] :: l0.drop (i + 1) from List.drop_eq_getElem_cons hlt, show l1.drop i = l1[i] :: l1.drop (i + 1) from List.drop_eq_getElem_cons hlt1]
      have hw : wrap64 ((i : Int) + 1) = ((i + 1 : Nat) : Int) := by unfold wrap64; omega
      by_cases e : l0[i] = l1[i]
      · rw [if_pos e, hw, ints_l0 l0 l1 hl hb n (i + 1) (by omega) (by omega)]
        congr 1
        rw [e, decide_eq_decide, List.cons.injEq]
        exact ⟨fun h => ⟨rfl, h⟩, fun h => h.2⟩
      · rw [if_neg e]
        congr 1
        symm
        exact decide_eq_false (fun h => e (List.cons.inj h).1)
    · rw [if_neg (by omega), List.drop_of_length_le (by omega), List.drop_of_length_le (by omega)]
      rfl
theorem ints_f (l0 l1 : List Int) (hb : l0.length < 4611686018427387904) : slabvaultlaw18_ints.f (l0.length + 1) l0 l1 = some (decide (l0 = l1)) := by
  unfold slabvaultlaw18_ints.f
  by_cases e : l0.length = l1.length
  · rw [if_pos (by omega), show (0 : Int) = ((0 : Nat) : Int) from rfl, ints_l0 l0 l1 e hb _ 0 (by omega) (by omega)]
    rfl
  · rw [if_neg (by omega)]
    simp [show ¬ l0 = l1 from fun h => e (by rw [h])]
theorem own_C {w : World} {b : Nat} {v : Value} {l : List Int} (h : w.ownsRow b 3 1 v l.length (l.map (.int .i64))) (hb : l.length ≤ 9223372036854775807) : ∃ A c, v = .slice A l.length c ∧ l.length ≤ c ∧ (Kd.int .i64).C w A l.length l := by
  rcases h.2 with ⟨rfl, h0⟩ | ⟨g, cap, cur, rfl, hbase, hg, h1, h2, h3, h4⟩
  · exact ⟨none, 0, by rw [h0], by omega, ⟨rfl, hb, fun h => absurd h (by omega)⟩⟩
  · refine ⟨_, _, rfl, h1, ⟨rfl, hb, fun _ => ⟨_, rfl, fun j p hj => ⟨[.int .i64 p], rfl, rfl, fun i u hu => ?_⟩⟩⟩⟩
    have hjl : j < l.length := (List.getElem?_eq_some_iff.1 hj).1
    have hi : i = 0 := by
      cases i with
      | zero => rfl
      | succ i => simp at hu
    subst hi
    have hu' : Value.int .i64 p = u := by simpa using hu
    have := h.cellAt j (by omega)
    rw [List.getElem?_map, hj] at this
    rw [← hu']
    have e : (⟨g, 0, none⟩ : Addr).add (j * (Kd.int .i64).sz + 0) = ⟨g, j, none⟩ := by
      rw [show j * (Kd.int .i64).sz + 0 = j from Nat.mul_one j, Addr.add_lit, Nat.zero_add]
    rw [e]
    simpa using this
theorem ints_calls (b1 b2 : Nat) (v u : Value) (l0 l1 : List Int) (w : World) (h0 : w.ownsRow b1 3 1 v l0.length (l0.map (.int .i64))) (h1 : w.ownsRow b2 3 1 u l1.length (l1.map (.int .i64))) (hb : l0.length < 4611686018427387904) :
    Calls Tryz.prog 33 #[v, u] w fun e w' => e = .returned (.bool (decide (l0 = l1))) ∧ Below w.heap.size w w' := by
  obtain ⟨A0, c0, rfl, hc0, hk0⟩ := own_C h0 (by omega)
  have hb1 : l1.length < 9223372036854775808 := by
    rcases h1.2 with ⟨-, h⟩ | ⟨g, cap, cur, -, -, -, h, h', -⟩
    · omega
    · unfold maxLen at h'; omega
  obtain ⟨A1, c1, rfl, hc1, hk1⟩ := own_C h1 (by omega)
  refine (slabvaultlaw18_ints.calls _ A0 c0 l0 A1 c1 l1 _ w hk0 hc0 hk1 hc1 (ints_f l0 l1 hb)).mono ?_
  rintro e w' ⟨rfl, hd⟩
  exact ⟨rfl, hd.below⟩
end
end Go.Proofs.YthifdofdoeaemaaGreatDoor.Wk
end
section
namespace Go.Proofs.YthifdofdoeaemaaGreatDoor.Wk
open Go.RowKit Go.Proofs.YthifdofdoeaemaaGreatDoorW.PrintWords Go.Proofs.YthifdofdoeaemaaGreatDoorW.PrintLast Go.Proofs.YthifdofdoeaemaaGreatDoorW.PrintMore
attribute [local go_sem] max2_int min2_int max_two min_two max_three min_three max_four min_four
set_option linter.unusedVariables false
set_option linter.unusedSimpArgs false
section
open Go.RowKit Go.Lib Go.Maps Go.Proofs.YthifdofdoeaemaaGreatDoorQ
attribute [local go_sem] Oper.semAt_some
def live1 : GS := ⟨3, 1, [(1, ⟨1, [(⟨#[103]⟩, 2, ⟨#[]⟩)], 0, 0⟩), (2, ⟨1, [], 1, 0⟩)]⟩
def live2 : GS := ⟨4, 2, [(1, ⟨1, [(⟨#[103]⟩, 2, ⟨#[]⟩)], 0, 0⟩), (2, ⟨1, [(⟨#[100]⟩, 3, ⟨#[]⟩)], 1, 0⟩), (3, ⟨2, [], 1, 0⟩)]⟩
def live3 : GS := ⟨4, 3, [(1, ⟨1, [(⟨#[101]⟩, 3, ⟨#[]⟩), (⟨#[103]⟩, 2, ⟨#[]⟩)], 0, 0⟩), (2, ⟨1, [(⟨#[100]⟩, 3, ⟨#[]⟩)], 1, 0⟩), (3, ⟨2, [], 2, 0⟩)]⟩
def live4 : GS := ⟨4, 1, [(1, ⟨1, [(⟨#[101]⟩, 3, ⟨#[]⟩)], 0, 0⟩), (3, ⟨2, [], 1, 0⟩)]⟩
theorem lives1 : addG newG ⟨#[47, 103]⟩ 1 = some (2, 0, live1) := by kernel_rfl
theorem lives2 : addG live1 ⟨#[47, 103, 47, 100]⟩ 2 = some (3, 0, live2) := by kernel_rfl
theorem lives3 : linkG live2 ⟨#[47, 101]⟩ ⟨#[47, 103, 47, 100]⟩ = some (0, live3) := by kernel_rfl
theorem lives4 : unlinkG 3 live3 ⟨#[47, 103]⟩ = some ([2], 0, live4) := by kernel_rfl
theorem lives5 : findG live4 ⟨#[47, 101]⟩ = some (3, 0) := by kernel_rfl
set_option maxHeartbeats 8000000 in
set_option maxRecDepth 100000 in
theorem lives_calls (w : World) (hl : Lay w) : Calls Tryz.prog 14 #[] w fun e w' => e = .returned (.bool true) ∧ Below w.heap.size w w' := by
  have HL := Aside0.mk hl
  clear hl
  go_enter Tryz.func14, Tryz.ntmps14
  go_upto_region 4 with (go_at_call 13; refine (new_mine w _ (Below.refl _ _)).mono ?_; rintro e_ w1 ⟨g, F1, rfl, hm, hf, -⟩; have HM1 := Aside0.mk hm; clear hm hf)
  go_upto_region 5 with (go_at_call 16; refine (add_mine HM1.out HL.out ⟨#[47, 103]⟩ 1 lives1).mono ?_; rintro e_ w2 ⟨rfl, F2, hm, -, -, -⟩; have HM2 := Aside0.mk hm; clear hm)
  go_upto_region 6 with (go_at_call 16; refine (add_mine HM2.out HL.out ⟨#[47, 103, 47, 100]⟩ 2 lives2).mono ?_; rintro e_ w3 ⟨rfl, F3, hm, -, -, -⟩; have HM3 := Aside0.mk hm; clear hm)
  go_upto_region 7 with (go_at_call 22; refine (link_mine HM3.out HL.out ⟨#[47, 101]⟩ ⟨#[47, 103, 47, 100]⟩ lives3).mono ?_; rintro e_ w4 ⟨rfl, hm, -⟩; have HM4 := Aside0.mk hm; clear hm)
  go_upto_region 8 with (go_at_call 18; refine (unlink_mine HM4.out HL.out 3 ⟨#[47, 103]⟩ lives4).mono ?_; rintro e_ w5 ⟨v5, rfl, hr, hm, -⟩; have HM5 := Aside0.mk hm; have HR5 := Aside0.mk hr; clear hm hr)
  go_upto_region 9 with (go_at_call 17; refine (find_mine HM5.out HL.out ⟨#[47, 101]⟩ lives5).mono ?_; rintro e_ w6 ⟨rfl, hb⟩; have HB6 := Aside0.mk hb; clear hb)
  have HRV := Aside0.mk (fun o => row_same HR5.out (SameOn.of_below (S := fun _ => True) (HB6.out.trans (below_alloc (Below.refl _ _) o |>.mono HB6.out.size))) (fun _ _ => trivial))
  have HRU : Aside0 ((w6.alloc (.cells #[.int .i64 2] 3 (0, 0))).ownsRow w6.heap.size 3 1 (.slice (some ⟨w6.heap.size, 0, none⟩) 1 1) ([2] : List Int).length (([2] : List Int).map (.int .i64))) := ⟨⟨rfl, .inr ⟨_, 1, _, rfl, Nat.le_refl _, World.alloc_heap_new _ _, Nat.le_refl _, by decide, rfl, rfl⟩⟩⟩
  go_wp2_with (go_at_call 33; refine (ints_calls w4.heap.size w6.heap.size v5 (.slice (some ⟨w6.heap.size, 0, none⟩) 1 1) [2] [2] _ (HRV.out _) HRU.out (by decide)).mono ?_; rintro e_ w7 ⟨rfl, hb7⟩; have HB7 := Aside0.mk hb7; clear hb7)
  go_ret
  refine ⟨rfl, ?_⟩
  have h1 := HM5.out.below
  have h2 := h1.trans (HB6.out.mono h1.size)
  have h3 : Below w.heap.size w (w6.alloc (.cells #[.int .i64 2] 3 (0, 0))) := h2.trans (below_alloc (Below.refl _ _) _ |>.mono h2.size)
  exact h3.trans (HB7.out.mono h3.size)
end
end Go.Proofs.YthifdofdoeaemaaGreatDoor.Wk
end
section
namespace Go.Proofs.YthifdofdoeaemaaGreatDoor.Wk
open Go.RowKit Go.Proofs.YthifdofdoeaemaaGreatDoorW.PrintWords Go.Proofs.YthifdofdoeaemaaGreatDoorW.PrintLast Go.Proofs.YthifdofdoeaemaaGreatDoorW.PrintMore
attribute [local go_sem] max2_int min2_int max_two min_two max_three min_three max_four min_four
set_option linter.unusedVariables false
set_option linter.unusedSimpArgs false
section
open Go.RowKit Go.Lib
def names13 : ByteArray := ⟨#[97, 98, 99, 100, 101, 102, 103, 104, 105, 106, 107, 108, 109]⟩
def nmR (i : Nat) : ByteArray := ⟨#[UInt8.ofNat (97 + i)]⟩
def pthR (i : Nat) : ByteArray := ⟨#[47, UInt8.ofNat (97 + i)]⟩
theorem pthR_eq (i : Nat) (h : i < 13) : (⟨#[47]⟩ : ByteArray) ++ names13.extract i (i + 1) = pthR i := by
  have hk : i = 0 ∨ i = 1 ∨ i = 2 ∨ i = 3 ∨ i = 4 ∨ i = 5 ∨ i = 6 ∨ i = 7 ∨ i = 8 ∨ i = 9 ∨ i = 10 ∨ i = 11 ∨ i = 12 := by omega
  rcases hk with rfl | rfl | rfl | rfl | rfl | rfl | rfl | rfl | rfl | rfl | rfl | rfl | rfl <;> (show _ = _; kernel_rfl)
def softsR (k : Nat) : List Lk := (List.range k).map (fun i => (nmR i, 0, pthR (i + 1)))
def ringR (k : Nat) : GS := ⟨2, k, [(1, ⟨1, softsR k, 0, 0⟩)]⟩
def ringA (k : Nat) : GS := ⟨3, (k : Int) + 1, [(1, ⟨1, softsR k ++ [(nmR k, 2, ⟨#[]⟩)], 0, 0⟩), (2, ⟨1, [], 1, 0⟩)]⟩
def ringB (k : Nat) : GS := ⟨3, k, [(1, ⟨1, softsR k, 0, 0⟩)]⟩
def ringC (k : Nat) : GS := ⟨3, (k : Int) + 1, [(1, ⟨1, softsR k ++ [(nmR k, 0, ⟨#[47, 97]⟩)], 0, 0⟩)]⟩
theorem ring_soft (i : Nat) (h : i < 12) : softG (ringR i) (pthR i) (pthR (i + 1)) = some (0, ringR (i + 1)) := by
  have hk : i = 0 ∨ i = 1 ∨ i = 2 ∨ i = 3 ∨ i = 4 ∨ i = 5 ∨ i = 6 ∨ i = 7 ∨ i = 8 ∨ i = 9 ∨ i = 10 ∨ i = 11 := by omega
  rcases hk with rfl | rfl | rfl | rfl | rfl | rfl | rfl | rfl | rfl | rfl | rfl | rfl <;> (show _ = _; kernel_rfl)
theorem ring_add (k : Nat) (h0 : 1 ≤ k) (h : k ≤ 12) : addG (ringR k) (pthR k) 1 = some (2, 0, ringA k) := by
  have hk : k = 1 ∨ k = 2 ∨ k = 3 ∨ k = 4 ∨ k = 5 ∨ k = 6 ∨ k = 7 ∨ k = 8 ∨ k = 9 ∨ k = 10 ∨ k = 11 ∨ k = 12 := by omega
  rcases hk with rfl | rfl | rfl | rfl | rfl | rfl | rfl | rfl | rfl | rfl | rfl | rfl <;> (show _ = _; kernel_rfl)
theorem ring_find (k : Nat) (h0 : 1 ≤ k) (h : k ≤ 12) : findG (ringA k) ⟨#[47, 97]⟩ = some (if k ≤ 8 then (2, 0) else (0, 13)) := by
  have hk : k = 1 ∨ k = 2 ∨ k = 3 ∨ k = 4 ∨ k = 5 ∨ k = 6 ∨ k = 7 ∨ k = 8 ∨ k = 9 ∨ k = 10 ∨ k = 11 ∨ k = 12 := by omega
  rcases hk with rfl | rfl | rfl | rfl | rfl | rfl | rfl | rfl | rfl | rfl | rfl | rfl <;> (show _ = _; kernel_rfl)
theorem ring_unlink (k : Nat) (h0 : 1 ≤ k) (h : k ≤ 12) : unlinkG 3 (ringA k) (pthR k) = some ([2], 0, ringB k) := by
  have hk : k = 1 ∨ k = 2 ∨ k = 3 ∨ k = 4 ∨ k = 5 ∨ k = 6 ∨ k = 7 ∨ k = 8 ∨ k = 9 ∨ k = 10 ∨ k = 11 ∨ k = 12 := by omega
  rcases hk with rfl | rfl | rfl | rfl | rfl | rfl | rfl | rfl | rfl | rfl | rfl | rfl <;> (show _ = _; kernel_rfl)
theorem ring_close (k : Nat) (h0 : 1 ≤ k) (h : k ≤ 12) : softG (ringB k) (pthR k) ⟨#[47, 97]⟩ = some (0, ringC k) := by
  have hk : k = 1 ∨ k = 2 ∨ k = 3 ∨ k = 4 ∨ k = 5 ∨ k = 6 ∨ k = 7 ∨ k = 8 ∨ k = 9 ∨ k = 10 ∨ k = 11 ∨ k = 12 := by omega
  rcases hk with rfl | rfl | rfl | rfl | rfl | rfl | rfl | rfl | rfl | rfl | rfl | rfl <;> (show _ = _; kernel_rfl)
theorem ring_walk (k : Nat) (h0 : 1 ≤ k) (h : k ≤ 12) (ns : List ByteArray) : walkG (ringC k) 9 (⟨#[97]⟩ :: ns) 0 = some (0, 13, 8) := by
  have hk : k = 1 ∨ k = 2 ∨ k = 3 ∨ k = 4 ∨ k = 5 ∨ k = 6 ∨ k = 7 ∨ k = 8 ∨ k = 9 ∨ k = 10 ∨ k = 11 ∨ k = 12 := by omega
  rcases hk with rfl | rfl | rfl | rfl | rfl | rfl | rfl | rfl | rfl | rfl | rfl | rfl <;> (show _ = _; kernel_rfl)
theorem parseL_pre : ∀ (ps acc l : List ByteArray), parseL acc ps = .ok l → acc <+: l
  | [], acc, l, h => by cases h; exact List.prefix_refl _
  | p :: ps, acc, l, h => by
    unfold parseL at h
    cases hp : parseStep acc p with
    | error e => rw [hp] at h; cases h
    | ok a =>
      rw [hp] at h
      refine List.IsPrefix.trans ?_ (parseL_pre ps a l h)
      unfold parseStep at hp
      split at hp
      · cases hp; exact List.prefix_refl _
      · split at hp
        · cases hp; exact List.prefix_refl _
        · split at hp
          · cases hp
          · split at hp
            · cases hp
            · cases hp; exact List.prefix_append _ _
theorem parseL_bad : ∀ (l acc : List ByteArray) (a : Nat) (y : Int), parseL acc l = .error (a, y) → y = 3 ∨ y = 8
  | [], acc, a, y, h => by cases h
  | p :: ps, acc, a, y, h => by
    unfold parseL at h
    cases hp : parseStep acc p with
    | ok b => rw [hp] at h; exact parseL_bad ps b a y h
    | error e =>
      rw [hp] at h
      cases h
      unfold parseStep at hp
      split at hp
      · cases hp
      · split at hp
        · cases hp
        · split at hp
          · cases hp; exact .inr rfl
          · split at hp
            · cases hp; exact .inl rfl
            · cases hp
theorem tail_parse (tail : ByteArray) : (∃ ns, parseP ((⟨#[47, 97, 47]⟩ : ByteArray) ++ tail) = (⟨#[97]⟩ :: ns, 0, 0)) ∨ ∃ a y, parseP ((⟨#[47, 97, 47]⟩ : ByteArray) ++ tail) = ([], a, y) ∧ (y = 3 ∨ y = 8) := by
  obtain ⟨s, hs⟩ : ∃ s, s = (⟨#[47, 97, 47]⟩ : ByteArray) ++ tail := ⟨_, rfl⟩
  have hd : s.data.toList = 47 :: 97 :: 47 :: tail.data.toList := by rw [hs]; simp [ByteArray.data_append]
  rw [← hs]
  have hz := Lib.size_eq s
  have hx : partsB (s.extract 1 s.size) = ⟨#[97]⟩ :: partsB tail := by
    have e1 : (s.extract 1 s.size).data.toList = 97 :: 47 :: tail.data.toList := by
      rw [Lib.extract_data, List.take_of_length_le (by rw [List.length_drop]; omega), hd]
      rfl
    unfold partsB
    rw [e1]
    rfl
  have hp : Lib.hasPrefix s.data.toList [47] = true := by rw [hd]; simp [Lib.hasPrefix]
  have hst : parseStep [] ⟨#[97]⟩ = .ok [⟨#[97]⟩] := by kernel_rfl
  have hF : parseF s = if 1024 < s.size then .error (0, 3) else parseL [⟨#[97]⟩] (partsB tail) := by
    unfold parseF
    rw [hp, hx]
    split
    · rfl
    · simp only [Bool.true_eq_false, if_false]
      conv => lhs; unfold parseL
      rw [hst]
  unfold parseP
  rw [hF]
  by_cases h1 : 1024 < s.size
  · rw [if_pos h1]
    exact .inr ⟨_, _, rfl, .inl rfl⟩
  · rw [if_neg h1]
    cases hpl : parseL [⟨#[97]⟩] (partsB tail) with
    | ok l =>
      obtain ⟨ns, hns⟩ := parseL_pre _ _ _ hpl
      exact .inl ⟨ns, by rw [← hns]; rfl⟩
    | error e => exact .inr ⟨_, _, rfl, parseL_bad _ _ e.1 e.2 hpl⟩
theorem ring_tail (k : Nat) (h0 : 1 ≤ k) (h : k ≤ 12) (tail : ByteArray) : ∃ e, findG (ringC k) ((⟨#[47, 97, 47]⟩ : ByteArray) ++ tail) = some (0, e) ∧ (e = 13 ∨ e = 8 ∨ e = 3) := by
  unfold findG
  rcases tail_parse tail with ⟨ns, hp⟩ | ⟨a, y, hp, hy⟩
  · rw [hp]
    simp only
    rw [if_pos trivial, ring_walk k h0 h ns]
    exact ⟨13, rfl, .inl rfl⟩
  · rw [hp]
    simp only
    rw [if_neg (by omega)]
    exact ⟨y, rfl, by omega⟩
end
end Go.Proofs.YthifdofdoeaemaaGreatDoor.Wk
end
section
namespace Go.Proofs.YthifdofdoeaemaaGreatDoor.Wk
open Go.RowKit Go.Proofs.YthifdofdoeaemaaGreatDoorW.PrintWords Go.Proofs.YthifdofdoeaemaaGreatDoorW.PrintLast Go.Proofs.YthifdofdoeaemaaGreatDoorW.PrintMore
attribute [local go_sem] max2_int min2_int max_two min_two max_three min_three max_four min_four
set_option linter.unusedVariables false
set_option linter.unusedSimpArgs false
section
open Go.RowKit Go.Lib Go.Maps Go.Proofs.YthifdofdoeaemaaGreatDoorQ
attribute [local go_sem] Oper.semAt_some
set_option maxHeartbeats 8000000 in
set_option maxRecDepth 100000 in
theorem law3_calls (n : Int) (tail : ByteArray) (w : World) (hl : Lay w) (h0 : 0 ≤ n) (h1 : n < 18446744073709551616) (ht : tail.size ≤ 140737488351232) : Calls Tryz.prog 3 #[.int .u64 n, .string tail] w fun e w' => e = .returned (.bool true) ∧ Below w.heap.size w w' := by
  have HL := Aside0.mk hl
  clear hl
  by_cases h60 : 60 < tail.size
  · have h60b : decide (60 < (tail.size : Int)) = true := decide_eq_true (by omega)
    go_enter Tryz.func3, Tryz.ntmps3
    go_wp2_with (first
      | (go_at_call 13; refine (new_mine w _ (Below.refl _ _)).mono ?_; rintro e_ w1 ⟨g, F, rfl, hm, hf, -⟩; have HM1 := Aside0.mk hm; clear hm hf)
      | (go_at_call 14; refine (lives_calls _ (HM1.out.lay HL.out)).mono ?_; rintro e_ w2 ⟨rfl, hb2⟩; have HB2 := Aside0.mk hb2; clear hb2))
    go_ret
    exact ⟨rfl, HM1.out.below.trans (HB2.out.mono HM1.out.below.size)⟩
  · have h60b : decide (60 < (tail.size : Int)) = false := decide_eq_false (by omega)
    obtain ⟨k, hk⟩ : ∃ k : Nat, 1 + n % 12 = (k : Int) ∧ 1 ≤ k ∧ k ≤ 12 := ⟨(1 + n % 12).toNat, by omega, by omega, by omega⟩
    obtain ⟨hk, hk1, hk12⟩ := hk
    have hkw : wrap64 (k : Int) = k := by unfold wrap64; omega
    go_enter Tryz.func3, Tryz.ntmps3
    go_wp2_with (first
      | (go_at_call 13; refine (new_mine w _ (Below.refl _ _)).mono ?_; rintro e_ w1 ⟨g, F, rfl, hm, hf, -⟩; have HM1 := Aside0.mk hm; clear hm hf))
    go_loopg [8] 13 (fun kq v8 W => ∃ i : Nat, v8 = .int .i64 (i : Int) ∧ Aside0 (i ≤ k ∧ k - i ≤ kq) ∧ Aside0 (Mine w W g F (ringR i)))
    case atStart => exact ⟨0, rfl, ⟨Nat.zero_le _, by omega⟩, HM1⟩
    case round =>
      obtain ⟨i, rfl, HI, HM⟩ := hrel
      by_cases hlt : i < k
      · have q2 : decide ((i : Int) < (k : Int)) = true := decide_eq_true (by omega)
        have p0 : (0 : Int) ≤ (i : Int) := by omega
        have p1 : (i : Int) ≤ (i : Int) + 1 := by omega
        have p2 : (i : Int) + 1 ≤ 13 := by omega
        have p3 : (0 : Int) ≤ (i : Int) + 1 := by omega
        have p4 : (i : Int) + 1 ≤ (i : Int) + 2 := by omega
        have p5 : (i : Int) + 2 ≤ 13 := by omega
        have w1_ : wrap64 ((i : Int) + 1) = i + 1 := by unfold wrap64; omega
        have w2_ : wrap64 ((i : Int) + 2) = i + 2 := by unfold wrap64; omega
        have z1 : (9223372036854775807 < 1 + (min (i + 1) 13 - i)) = False := eq_false (by omega)
        have z2 : ((i : Int) + 2).toNat = i + 2 := by omega
        have z3 : (9223372036854775807 < 1 + (i + 2 - (i + 1))) = False := eq_false (by omega)
        have hsoft : softG (ringR i) ((⟨#[47]⟩ : ByteArray) ++ (⟨#[97, 98, 99, 100, 101, 102, 103, 104, 105, 106, 107, 108, 109]⟩ : ByteArray).extract i (i + 1)) ((⟨#[47]⟩ : ByteArray) ++ (⟨#[97, 98, 99, 100, 101, 102, 103, 104, 105, 106, 107, 108, 109]⟩ : ByteArray).extract (i + 1) (i + 2)) = some (0, ringR (i + 1)) := by
          have e1 := pthR_eq i (by omega)
          have e2 := pthR_eq (i + 1) (by omega)
          unfold names13 at e1 e2
          rw [e1, e2]
          exact ring_soft i (by omega)
        have z4 : (9223372036854775807 < 1 + (min (i + 2) 13 - (i + 1))) = False := eq_false (by omega)
        have HSOFT := Aside0.mk hsoft
        clear hsoft
        replace p0 := eq_true p0
        replace p1 := eq_true p1
        replace p2 := eq_true p2
        replace p3 := eq_true p3
        replace p4 := eq_true p4
        replace p5 := eq_true p5
        go_upto_region 9 with (fail)
        have hMd : Mine w wr.drew g F (ringR i) := HM.out.step (below_drew (Below.refl _ _))
        refine start_ (n := 16) (S := fun W' => Mine w W' g F (ringR i)) (ds := [14]) #[false, false, false, false, false, false, false, false, false, false, false, false, false, false, false, false] (by kernel_rfl) rfl rfl hMd (fun hHeld => ?_)
        refine pure_ (i := 0) (N := some 40) (v := ?_) (a' := ?_) #[true, false, false, false, false, false, false, false, false, false, false, false, false, false, false, false] rfl rfl (by kernel_rfl) (fun _ _ _ h => h) (Or.inl ⟨by rfl, ?_⟩) ?_ ?_
        rotate_left
        · intro w'
          go_simp
          with_reducible rfl
        rotate_left
        · simp only [Act.put, List.setIfInBounds_toArray, List.set_cons_zero, List.set_cons_succ, i64_w, i32_w]
          rfl
        refine pure_ (i := 1) (N := some 41) (v := ?_) (a' := ?_) #[true, true, false, false, false, false, false, false, false, false, false, false, false, false, false, false] rfl rfl (by kernel_rfl) (fun _ _ _ h => h) (Or.inl ⟨by rfl, ?_⟩) ?_ ?_
        rotate_left
        · intro w'
          go_simp
          with_reducible rfl
        rotate_left
        · simp only [Act.put, List.setIfInBounds_toArray, List.set_cons_zero, List.set_cons_succ, i64_w, i32_w]
          rfl
        refine pure_ (i := 2) (N := some 42) (v := ?_) (a' := ?_) #[true, true, true, false, false, false, false, false, false, false, false, false, false, false, false, false] rfl rfl (by kernel_rfl) (fun _ _ _ h => h) (Or.inl ⟨by rfl, ?_⟩) ?_ ?_
        rotate_left
        · intro w'
          go_simp
          with_reducible rfl
        rotate_left
        · simp only [Act.put, List.setIfInBounds_toArray, List.set_cons_zero, List.set_cons_succ, i64_w, i32_w]
          rfl
        refine pure_ (i := 3) (N := some 43) (v := ?_) (a' := ?_) #[true, true, true, true, false, false, false, false, false, false, false, false, false, false, false, false] rfl rfl (by kernel_rfl) (fun _ _ _ h => h) (Or.inl ⟨by rfl, ?_⟩) ?_ ?_
        rotate_left
        · intro w'
          go_simp
          with_reducible rfl
        rotate_left
        · simp only [Act.put, List.setIfInBounds_toArray, List.set_cons_zero, List.set_cons_succ, i64_w, i32_w]
          rfl
        refine pure_ (i := 4) (N := some 44) (v := ?_) (a' := ?_) #[true, true, true, true, true, false, false, false, false, false, false, false, false, false, false, false] rfl rfl (by kernel_rfl) (fun _ _ _ h => h) (Or.inl ⟨by rfl, ?_⟩) ?_ ?_
        rotate_left
        · intro w'
          go_simp
          with_reducible rfl
        rotate_left
        · simp only [Act.put, List.setIfInBounds_toArray, List.set_cons_zero, List.set_cons_succ, i64_w, i32_w]
          rfl
        refine pure_ (i := 5) (N := some 45) (v := ?_) (a' := ?_) #[true, true, true, true, true, true, false, false, false, false, false, false, false, false, false, false] rfl rfl (by kernel_rfl) (fun _ _ _ h => h) (Or.inl ⟨by rfl, ?_⟩) ?_ ?_
        rotate_left
        · intro w'
          go_simp
          with_reducible rfl
        rotate_left
        · simp only [Act.put, List.setIfInBounds_toArray, List.set_cons_zero, List.set_cons_succ, i64_w, i32_w]
          rfl
        refine pure_ (i := 6) (N := some 46) (v := ?_) (a' := ?_) #[true, true, true, true, true, true, true, false, false, false, false, false, false, false, false, false] rfl rfl (by kernel_rfl) (fun _ _ _ h => h) (Or.inl ⟨by rfl, ?_⟩) ?_ ?_
        rotate_left
        · intro w'
          go_simp
          with_reducible rfl
        rotate_left
        · simp only [Act.put, List.setIfInBounds_toArray, List.set_cons_zero, List.set_cons_succ, i64_w, i32_w]
          rfl
        refine pure_ (i := 7) (N := some 47) (v := ?_) (a' := ?_) #[true, true, true, true, true, true, true, true, false, false, false, false, false, false, false, false] rfl rfl (by kernel_rfl) (fun _ _ _ h => h) (Or.inl ⟨by rfl, ?_⟩) ?_ ?_
        rotate_left
        · intro w'
          go_simp
          with_reducible rfl
        rotate_left
        · simp only [Act.put, List.setIfInBounds_toArray, List.set_cons_zero, List.set_cons_succ, i64_w, i32_w]
          rfl
        refine pure_ (i := 8) (N := some 48) (v := ?_) (a' := ?_) #[true, true, true, true, true, true, true, true, true, false, false, false, false, false, false, false] rfl rfl (by kernel_rfl) (fun _ _ _ h => h) (Or.inl ⟨by rfl, ?_⟩) ?_ ?_
        rotate_left
        · intro w'
          go_simp
          with_reducible rfl
        rotate_left
        · simp only [Act.put, List.setIfInBounds_toArray, List.set_cons_zero, List.set_cons_succ, i64_w, i32_w]
          rfl
        refine pure_ (i := 9) (N := some 49) (v := ?_) (a' := ?_) #[true, true, true, true, true, true, true, true, true, true, false, false, false, false, false, false] rfl rfl (by kernel_rfl) (fun _ _ _ h => h) (Or.inl ⟨by rfl, ?_⟩) ?_ ?_
        rotate_left
        · intro w'
          go_simp
          with_reducible rfl
        rotate_left
        · simp only [Act.put, List.setIfInBounds_toArray, List.set_cons_zero, List.set_cons_succ, i64_w, i32_w]
          rfl
        refine pure_ (i := 10) (N := some 50) (v := ?_) (a' := ?_) #[true, true, true, true, true, true, true, true, true, true, true, false, false, false, false, false] rfl rfl (by kernel_rfl) (fun _ _ _ h => h) (Or.inl ⟨by rfl, ?_⟩) ?_ ?_
        rotate_left
        · intro w'
          go_simp
          with_reducible rfl
        rotate_left
        · simp only [Act.put, List.setIfInBounds_toArray, List.set_cons_zero, List.set_cons_succ, i64_w, i32_w]
          rfl
        refine pure_ (i := 11) (N := some 51) (v := ?_) (a' := ?_) #[true, true, true, true, true, true, true, true, true, true, true, true, false, false, false, false] rfl rfl (by kernel_rfl) (fun _ _ _ h => h) (Or.inl ⟨by rfl, ?_⟩) ?_ ?_
        rotate_left
        · intro w'
          go_simp
          with_reducible rfl
        rotate_left
        · simp only [Act.put, List.setIfInBounds_toArray, List.set_cons_zero, List.set_cons_succ, i64_w, i32_w]
          rfl
        refine pure_ (i := 12) (N := some 52) (v := ?_) (a' := ?_) #[true, true, true, true, true, true, true, true, true, true, true, true, true, false, false, false] rfl rfl (by kernel_rfl) (fun _ _ _ h => h) (Or.inl ⟨by rfl, ?_⟩) ?_ ?_
        rotate_left
        · intro w'
          go_simp
          with_reducible rfl
        rotate_left
        · simp only [Act.put, List.setIfInBounds_toArray, List.set_cons_zero, List.set_cons_succ, i64_w, i32_w]
          rfl
        refine pure_ (i := 13) (N := some 53) (v := ?_) (a' := ?_) #[true, true, true, true, true, true, true, true, true, true, true, true, true, true, false, false] rfl rfl (by kernel_rfl) (fun _ _ _ h => h) (Or.inl ⟨by rfl, ?_⟩) ?_ ?_
        rotate_left
        · intro w'
          go_simp
          with_reducible rfl
        rotate_left
        · simp only [Act.put, List.setIfInBounds_toArray, List.set_cons_zero, List.set_cons_succ, i64_w, i32_w]
          rfl
        refine last_ (i := 14) (N := some 54) #[true, true, true, true, true, true, true, true, true, true, true, true, true, true, true, false] rfl rfl (by kernel_rfl) (by decide) (fun K hK => ?_)
        skip
        refine goes_ Tryz.func15 (by kernel_rfl) rfl #[.pointer (some ⟨g, 0, none⟩), .string _, .string _] (by rfl) rfl rfl (by (simp only [List.map_toArray, List.map_cons, List.map_nil]); rfl) ?_
        refine (soft_mine hHeld HL.out _ _ HSOFT.out).mono ?_
        rintro e_ WL1 ⟨rfl, hm1, -⟩
        refine ⟨_, rfl, ?_⟩
        refine hK.out _ _ ?_
        clear hK K
        refine norm_ (a' := ?_) ?_ ?_
        rotate_left
        · show Act.put _ (some 54) _ = _
          simp only [Act.put, List.setIfInBounds_toArray, List.set_cons_zero, List.set_cons_succ, i64_w, i32_w]
          rfl
        have HM1 := Aside0.mk hm1
        clear hm1
        refine pure_ (i := 15) (N := some 55) (v := ?_) (a' := ?_) #[true, true, true, true, true, true, true, true, true, true, true, true, true, true, true, true] rfl rfl (by kernel_rfl) (fun _ _ _ h => h) (Or.inl ⟨by rfl, ?_⟩) ?_ ?_
        rotate_left
        · intro w'
          go_simp
          with_reducible rfl
        rotate_left
        · simp only [Act.put, List.setIfInBounds_toArray, List.set_cons_zero, List.set_cons_succ, i64_w, i32_w]
          rfl
        refine done_ (by kernel_rfl) ?_
        go_wp2
        go_roundg (gk - 1)
        case measure => have := HI.out; omega
        case rel => exact ⟨i + 1, rfl, ⟨by omega, by have := HI.out; omega⟩, HM1⟩
      · have hi : i = k := by have := HI.out; omega
        have HMk : Aside0 (Mine w wr g F (ringR k)) := ⟨hi ▸ HM.out⟩
        have q2 : decide ((i : Int) < (k : Int)) = false := decide_eq_false (by omega)
        have p1 : (k : Int) ≤ (k : Int) + 1 := by omega
        have p2 : (k : Int) + 1 ≤ 13 := by omega
        have p0 : (0 : Int) ≤ (k : Int) := by omega
        have w1_ : wrap64 ((k : Int) + 1) = k + 1 := by unfold wrap64; omega
        have z1 : (9223372036854775807 < 1 + (min (k + 1) 13 - k)) = False := eq_false (by omega)
        replace p1 := eq_true p1
        replace p2 := eq_true p2
        replace p0 := eq_true p0
        have hp : (⟨#[47]⟩ : ByteArray) ++ (⟨#[97, 98, 99, 100, 101, 102, 103, 104, 105, 106, 107, 108, 109]⟩ : ByteArray).extract k (k + 1) = pthR k := pthR_eq k (by omega)
        clear HM HI hi
        go_upto_region 12 with (fail)
        by_cases h8 : k ≤ 8
        · have hfind : findG (ringA k) ⟨#[47, 97]⟩ = some (2, 0) := by rw [ring_find k hk1 hk12, if_pos h8]
          have HFIND := Aside0.mk hfind
          have h8b : decide ((k : Int) ≤ 8) = true := decide_eq_true (by omega)
          have h8c : decide (8 < (k : Int)) = false := decide_eq_false (by omega)
          clear hfind
          go_upto_region 16 with (first
            | (go_at_call 16; refine (add_mine HMk.out HL.out (pthR k) 1 (ring_add k hk1 hk12)).mono ?_; rintro e_ w2 ⟨rfl, F2, hm, -, -, -⟩; have HM2 := Aside0.mk hm; clear hm)
            | (go_at_call 17; refine (find_mine HM2.out HL.out ⟨#[47, 97]⟩ HFIND.out).mono ?_; rintro e_ w3 ⟨rfl, hb⟩; have HM3 := Aside0.mk (HM2.out.step hb); clear hb))
          go_upto_region 21 with (first
            | (go_at_call 18; refine (unlink_mine HM3.out HL.out 3 (pthR k) (ring_unlink k hk1 hk12)).mono ?_; rintro e_ w4 ⟨v4, rfl, -, hm, -⟩; have HM4 := Aside0.mk hm; clear hm)
            | (go_at_call 15; refine (soft_mine HM4.out HL.out (pthR k) ⟨#[47, 97]⟩ (ring_close k hk1 hk12)).mono ?_; rintro e_ w5 ⟨rfl, hm, -⟩; have HM5 := Aside0.mk hm; clear hm))
          obtain ⟨e, hft, he⟩ := ring_tail k hk1 hk12 tail
          have HFT := Aside0.mk hft
          have zt : (9223372036854775807 < 3 + tail.size) = False := eq_false (by omega)
          clear hft
          rcases he with rfl | rfl | rfl
          all_goals
            go_wp2_with (first
              | (go_at_call 17; refine (find_mine HM5.out HL.out _ HFT.out).mono ?_; rintro e_ w6 ⟨rfl, hb⟩; have HM6 := Aside0.mk (HM5.out.step hb); clear hb)
              | (go_at_call 14; refine (lives_calls _ (HM6.out.lay HL.out)).mono ?_; rintro e_ w7 ⟨rfl, hb⟩; have HB7 := Aside0.mk hb; clear hb))
            go_ret
            exact ⟨rfl, HM6.out.below.trans (HB7.out.mono HM6.out.below.size)⟩
        · have hfind : findG (ringA k) ⟨#[47, 97]⟩ = some (0, 13) := by rw [ring_find k hk1 hk12, if_neg h8]
          have HFIND := Aside0.mk hfind
          have h8b : decide ((k : Int) ≤ 8) = false := decide_eq_false (by omega)
          have h8c : decide (8 < (k : Int)) = true := decide_eq_true (by omega)
          clear hfind
          go_upto_region 16 with (first
            | (go_at_call 16; refine (add_mine HMk.out HL.out (pthR k) 1 (ring_add k hk1 hk12)).mono ?_; rintro e_ w2 ⟨rfl, F2, hm, -, -, -⟩; have HM2 := Aside0.mk hm; clear hm)
            | (go_at_call 17; refine (find_mine HM2.out HL.out ⟨#[47, 97]⟩ HFIND.out).mono ?_; rintro e_ w3 ⟨rfl, hb⟩; have HM3 := Aside0.mk (HM2.out.step hb); clear hb))
          go_upto_region 21 with (first
            | (go_at_call 18; refine (unlink_mine HM3.out HL.out 3 (pthR k) (ring_unlink k hk1 hk12)).mono ?_; rintro e_ w4 ⟨v4, rfl, -, hm, -⟩; have HM4 := Aside0.mk hm; clear hm)
            | (go_at_call 15; refine (soft_mine HM4.out HL.out (pthR k) ⟨#[47, 97]⟩ (ring_close k hk1 hk12)).mono ?_; rintro e_ w5 ⟨rfl, hm, -⟩; have HM5 := Aside0.mk hm; clear hm))
          obtain ⟨e, hft, he⟩ := ring_tail k hk1 hk12 tail
          have HFT := Aside0.mk hft
          have zt : (9223372036854775807 < 3 + tail.size) = False := eq_false (by omega)
          clear hft
          rcases he with rfl | rfl | rfl
          all_goals
            go_wp2_with (first
              | (go_at_call 17; refine (find_mine HM5.out HL.out _ HFT.out).mono ?_; rintro e_ w6 ⟨rfl, hb⟩; have HM6 := Aside0.mk (HM5.out.step hb); clear hb)
              | (go_at_call 14; refine (lives_calls _ (HM6.out.lay HL.out)).mono ?_; rintro e_ w7 ⟨rfl, hb⟩; have HB7 := Aside0.mk hb; clear hb))
            go_ret
            exact ⟨rfl, HM6.out.below.trans (HB7.out.mono HM6.out.below.size)⟩
end
end Go.Proofs.YthifdofdoeaemaaGreatDoor.Wk
end
