-- Texts that the row GraphActs leans on, joined by wip/tools/mkclaim.py: GAdd, GCut, GKeys, GSweep, GDrop, GApp, GLoop, GUnlink, GMine, GInts, GLives, GSum, GInv, GStep, GPOps, GPActs, GPlayed, LaidA, GList, GTail, GPAcyc, GPReach, GPSofts, GLawSofts, GOkeys, GNodes, GKind, GNodesR, GReach, GMay, GPOnce, GPLoad, GReach1, GSame
import Derived.Test.YthifdofdoeaemaaGreatDoorCGraphActs1
import Derived.Test.YthifdofdoeaemaaGreatDoorProg
import Derived.Below
import Derived.Deep.Draws
import Derived.Deep.AppendLies
import Derived.Maps.AppendAt
import Derived.OwnWalk
import Derived.Laws.BytesArg
import Derived.Laws.MakeOwn
import Derived.Laws.OwnMore
import Derived.Deep.OwnRows
import Derived.Tactics
import Derived.Lib.ConvBytes
import Derived.Laws.Slices
import Derived.WalkKit
import Derived.KernelRfl
import Derived.RowKit3
import Derived.Deep.LoopGhost
import Derived.Deep.QuietTactic
import Derived.BigQuiet
import Derived.WideLaws
import Derived.Deep.DeepCutAuto
import Derived.Deep.CutBlock
import Derived.Deep.RegionHeld3
import Derived.Laws.Rows
import Derived.Lib.AppendStr
import Derived.ArgAppend
import Derived.Laws.IdiomCopy
import Derived.OrdersHeld
import Derived.Laws.BitsLemmas
import Derived.RowKit
import Derived.WalkSpells
import Derived.Sort.LoopGhostIn
import Derived.Sort.CutIn
import Derived.Shelf.Abstract
import Derived.Shelf.RegionOpen
import Derived.OwnWalkIn
import Derived.TacticsInMore
import Derived.LoopNIn
import Derived.LoopIn
import Derived.Deep.Onto
import Derived.Maps.Ext
import Derived.Sort.OwnSortedInts
import Derived.Deep.MidRow
import Derived.Deep.AppendSrc
import Derived.Laws.Cover1
section
namespace Go.Proofs.YthifdofdoeaemaaGreatDoor.Wk
open Go.RowKit Go.Proofs.YthifdofdoeaemaaGreatDoorW.PrintWords Go.Proofs.YthifdofdoeaemaaGreatDoorW.PrintLast Go.Proofs.YthifdofdoeaemaaGreatDoorW.PrintMore
attribute [local go_sem] max2_int min2_int max_two min_two max_three min_three max_four min_four
set_option linter.unusedVariables false
set_option linter.unusedSimpArgs false
section
open Go.RowKit Go.Lib Go.Maps Go.Proofs.YthifdofdoeaemaaGreatDoorQ
attribute [local go_sem] Oper.semAt_some
theorem putG_keys {G G2 : GS} {id : Int} {x : Lk} (h : putG G id x = some G2) {y : Int × GO} (hy : y ∈ G2.objs) : ∃ z ∈ G.objs, y.1 = z.1 := by
  unfold putG at h
  split at h
  · cases h
  · split at h
    · simp only at h
      split at h
      · split at h
        · cases h
        · split at h
          · cases h
            simp only at hy
            obtain ⟨a, ha, e⟩ := key_setO hy
            obtain ⟨b, hb, e2⟩ := key_setO ha
            exact ⟨b, hb, e.trans e2⟩
          · cases h
      · cases h
        simp only at hy
        exact key_setO hy
    · cases h
theorem foot_keys {B : GB} {G G2 : GS} (h : ∀ y ∈ G2.objs, ∃ z ∈ G.objs, y.1 = z.1) {k : Nat} (hk : foot B G2 k) : foot B G k := by
  rcases hk with hk | hk | ⟨x, hx, hk⟩
  · exact .inl hk
  · exact .inr (.inl hk)
  · obtain ⟨z, hz, e⟩ := h x hx
    rw [e] at hk
    exact .inr (.inr ⟨z, hz, hk⟩)
theorem foot_plus {B : GB} {G : GS} {n c id : Int} {o : GO} {ob lb k : Nat} (h : foot (B.plus id ob lb) (GS.mk n c (putO (id, o) G.objs)) k) : foot B G k ∨ k = ob ∨ k = lb := by
  rcases h with h | h | ⟨x, hx, h⟩
  · exact .inl (.inl h)
  · exact .inl (.inr (.inl h))
  · rcases putO_new hx with rfl | ⟨hx, hne⟩
    · rw [show (B.plus id ob lb).ob id = ob from upd_same _ _ _, show (B.plus id ob lb).lb id = lb from upd_same _ _ _] at h
      exact .inr h
    · rw [GB.plus_ob hne, GB.plus_lb hne] at h
      exact .inl (.inr (.inr ⟨x, hx, h⟩))
theorem add_lays (B : GB) (G : GS) (kind : Int) (w W4 : World) (hG : GraphAt w B G) (hn : G.at G.next = none) (h1 : 1 ≤ G.next) (h2 : G.next < 4611686018427387904) (hb : G.objs.length < bound)
    (hw4 : W4 = w.setCell ⟨B.g, 0, none⟩ (.int .i64 (G.next + 1))) :
    ∃ W6, (Instr.mapUpdate 71 (.map (some B.mb)) (.int .i64 G.next) (.pointer (some ⟨W4.heap.size + 1, 0, none⟩))).run Tryz.prog (madeW kind W4.drew) = .ok () W6 ∧
      GraphAt W6 (B.plus G.next (W4.heap.size + 1) W4.heap.size) { G with next := G.next + 1, objs := putO (G.next, newO kind) G.objs } ∧ SameOn (fun k => ¬ foot B G k) w W6 := by
  have hG4 : GraphAt W4 B { G with next := G.next + 1, count := G.count } := hG.turnG _ _ (by rw [hw4]; exact (blk_set hG.cell 0 _).trans rfl) (fun k _ hk _ => by rw [hw4]; exact Below.heap_setCell _ _ _ _ hk)
  have hs4 : SameOn (fun k => ¬ foot B G k) w W4 := by rw [hw4]; exact SameOn.setCell _ _ _ (fun hn => hn (.inl rfl))
  have hb5 : Below W4.heap.size W4 (madeW kind W4.drew) := (below_drew (Below.refl _ _)).trans (madeW_below kind W4.drew)
  have hG5 := hG4.below hb5
  have hwf : (Lit.int .i64 G.next).wf = true := by
    have e1 : IntKind.i64.min = -9223372036854775808 := by decide
    have e2 : IntKind.i64.max = 9223372036854775807 := by decide
    show (decide (IntKind.i64.min ≤ G.next) && decide (G.next ≤ IntKind.i64.max)) = true
    rw [e1, e2, decide_eq_true (by omega), decide_eq_true (by omega)]
    rfl
  have hz5 : (madeW kind W4.drew).heap.size = W4.heap.size + 2 := by simp [madeW]
  obtain ⟨W6, hr, hm, hg⟩ := hG5.objs.update (t := 71) (e := 75) (int_keyed Tryz.underlying3) Tryz.underlying71 (Nat.lt_trans hb (by decide)) (keyOf_int_mk Tryz.underlying3 hwf) (val := .pointer (some ⟨W4.heap.size + 1, 0, none⟩)) (d := .lit (.int .i64 ((W4.heap.size + 1 : Nat) : Int))) (ps := []) rfl
  have hmb : B.mb < W4.heap.size := hG4.objs.lt
  have hsame : ∀ k, k ≠ B.mb → k < (madeW kind W4.drew).heap.size → W6.heap[k]? = (madeW kind W4.drew).heap[k]? := fun k hk hl => hg.block k hl (fun e => hk (by injection e))
  refine ⟨W6, hr, ?_, ?_⟩
  · have hm1 : W6.ownsMap Tryz.prog 3 readP B.mb (G.objs.length + 1) (.map ((putO (G.next, newO kind) G.objs).map (encO (B.plus G.next (W4.heap.size + 1) W4.heap.size).ob))) := by
      rw [← put_plus B G G.next (newO kind) (W4.heap.size + 1) W4.heap.size hn]
      exact hm
    have hm2 := own_tight hm1
    rw [List.length_map] at hm2
    refine hG5.plus (G := GS.mk (G.next + 1) G.count G.objs) hn hwf (newO kind) (W4.heap.size + 1) W4.heap.size (fun hf => by have := hG4.foot_lt hf; omega) (fun hf => by have := hG4.foot_lt hf; omega) ?_ hm2 (fun k _ hk hl => hsame k hk hl)
    unfold ObjAt
    rw [show (B.plus G.next (W4.heap.size + 1) W4.heap.size).ob G.next = W4.heap.size + 1 from upd_same _ _ _, show (B.plus G.next (W4.heap.size + 1) W4.heap.size).lb G.next = W4.heap.size from upd_same _ _ _]
    exact ⟨(hsame _ (by omega) (by omega)).trans (madeW_ob kind W4.drew), own_same (madeW_lb kind W4.drew) (hsame _ (by omega) (by show W4.heap.size < _; omega))⟩
  · refine hs4.trans ((SameOn.of_below hb5).trans ⟨hg.size, fun k hk hl => hsame k (fun e => hk (.inr (.inl e))) hl, hg.os, hg.tape, hg.output⟩)
set_option maxHeartbeats 8000000 in
set_option maxRecDepth 100000 in
theorem add_calls (B : GB) (G : GS) (p : ByteArray) (kind : Int) (w : World) (hl : Lay w) (hG : GraphAt w B G) (id e : Int) (G2 : GS) (h : addG G p kind = some (id, e, G2)) :
    Calls Tryz.prog 16 #[.pointer (some ⟨B.g, 0, none⟩), .string p, .int .i64 kind] w fun ev w' => ev = .returned (.tuple #[.int .i64 id, .int .i64 e]) ∧
      ∃ B2, B2.g = B.g ∧ GraphAt w' B2 G2 ∧ (∀ k, foot B2 G2 k → foot B G k ∨ w.heap.size ≤ k) ∧ SameOn (fun k => ¬ foot B G k) w w' := by
  have HL := Aside0.mk hl
  have HG := Aside0.mk hG
  unfold addG at h
  clear hl hG
  by_cases hk : kind = 1 ∨ kind = 2
  · rw [if_pos hk] at h
    cases hr : roomG G p with
    | none => rw [hr] at h; cases h
    | some r =>
      obtain ⟨gid, nm, re⟩ := r
      rw [hr] at h
      simp only at h
      have HR := Aside0.mk hr
      by_cases hre : re = 0
      · subst hre
        by_cases hlen : G.objs.length = 128
        · have hif : (if (0 : Int) = 0 ∧ G.objs.length = 128 then (7 : Int) else 0) = 7 := if_pos ⟨rfl, hlen⟩
          rw [hif, if_neg (show ¬ (7 : Int) = 0 by decide)] at h
          obtain ⟨rfl, rfl, rfl⟩ : (0 : Int) = id ∧ (7 : Int) = e ∧ G = G2 := by simpa using h
          have HLEN := Aside0.mk hlen
          clear h hr hlen
          rcases hk with rfl | rfl <;> (
            go_enter Tryz.func16, Tryz.ntmps16
            go_wp2_with (first
              | (go_at_call 39; refine (good_calls B G _ HG.out).mono ?_; rintro e_ w1 ⟨rfl, rfl⟩)
              | (go_at_call 41; refine (room_calls B G p _ HL.out HG.out gid 0 nm HR.out).mono ?_; rintro e_ w3 ⟨⟨v3, n3, rfl, hv3⟩, hw3⟩; obtain ⟨rfl, rfl⟩ := hv3 rfl; have HW3 := Aside0.mk hw3; have HG3 := Aside0.mk (HG.out.below hw3); clear hw3 hv3; have c1 := HG3.out.c1; have hln : ∀ ty, (Builtin.len_ #[71] ty #[.map (some B.mb)]).run Tryz.prog w3 = .ok (.int .i64 128) w3 := (fun ty => by have := HG3.out.objs.len Tryz.underlying71 ty; rwa [show (Maps.size (DataW.map (List.map (encO B.ob) G.objs))) = 128 by simp [Maps.size, HLEN.out]] at this)))
            go_ret2
            exact ⟨rfl, B, rfl, HG3.out, fun k hk => .inl hk, SameOn.of_below HW3.out⟩)
        · have hif : (if (0 : Int) = 0 ∧ G.objs.length = 128 then (7 : Int) else 0) = 0 := if_neg (fun q => hlen q.2)
          rw [hif, if_pos rfl] at h
          by_cases hc : (G.at G.next).isSome = true ∨ bound ≤ G.objs.length ∨ G.next < 1 ∨ 4611686018427387904 ≤ G.next
          · rw [if_pos hc] at h; cases h
          rw [if_neg hc] at h
          cases hp : putG { G with next := G.next + 1, objs := putO (G.next, newO kind) G.objs } gid (nm, G.next, ⟨#[]⟩) with
          | none => rw [hp] at h; cases h
          | some G3 =>
            rw [hp] at h
            obtain ⟨rfl, rfl, rfl⟩ : G.next = id ∧ (0 : Int) = e ∧ G3 = G2 := by simpa using h
            obtain ⟨hnm, o, ho, hlk⟩ := roomG_at hr
            have hn : G.at G.next = none := by
              cases hq : G.at G.next with
              | none => rfl
              | some _ => exact absurd (.inl (by rw [hq]; rfl)) hc
            have hgn : gid ≠ G.next := by rintro rfl; rw [hn] at ho; cases ho
            have h128 : ((G.objs.length : Int) == 128) = false := by simpa using (by omega : ¬ (G.objs.length : Int) = 128)
            have hwn : wrap64 (G.next + 1) = G.next + 1 := by unfold wrap64; omega
            have HN := Aside0.mk hn
            have HC := Aside0.mk hc
            have HP := Aside0.mk hp
            have HO := Aside0.mk ho
            have HNM := Aside0.mk hnm
            clear h hr hlen hn hc hp ho hlk hnm
            have hkk := hk
            rcases hkk with rfl | rfl
            · go_enter Tryz.func16, Tryz.ntmps16
              go_upto_region 12 with (first
                | (go_at_call 39; refine (good_calls B G _ HG.out).mono ?_; rintro e_ w1 ⟨rfl, rfl⟩)
                | (go_at_call 41; refine (room_calls B G p _ HL.out HG.out gid 0 nm HR.out).mono ?_; rintro e_ w3 ⟨⟨v3, n3, rfl, hv3⟩, hw3⟩; obtain ⟨rfl, rfl⟩ := hv3 rfl; have HW3 := Aside0.mk hw3; have HG3 := Aside0.mk (HG.out.below hw3); clear hw3 hv3; have c1 := HG3.out.c1; have c0 := HG3.out.c0; have f0 := blk_frozen HG3.out.cell 0; have hln : ∀ ty, (Builtin.len_ #[71] ty #[.map (some B.mb)]).run Tryz.prog w3 = .ok (.int .i64 (G.objs.length : Int)) w3 := (fun ty => by have := HG3.out.objs.len Tryz.underlying71 ty; rwa [show (Maps.size (DataW.map (List.map (encO B.ob) G.objs))) = G.objs.length by simp [Maps.size]] at this)))
              obtain ⟨W4, hw4⟩ : ∃ W4, W4 = w3.setCell ⟨B.g, 0, none⟩ (.int .i64 (G.next + 1)) := ⟨_, rfl⟩
              rw [← hw4]
              obtain ⟨W6, hr6, hg6, hs6⟩ := add_lays B G 1 w3 W4 HG3.out HN.out (by have := HC.out; omega) (by have := HC.out; omega) (by have := HC.out; omega) hw4
              have g1 : W4.drew.cell? ⟨B.g, 1, none⟩ = some (.map (some B.mb)) := by rw [hw4]; exact (blk_cell (blk_set HG3.out.cell 0 _) 1).trans rfl
              have g2 : (madeW 1 W4.drew).cell? ⟨B.g, 1, none⟩ = some (.map (some B.mb)) := by
                rw [hw4]
                exact (blk_cell ((madeW_below 1 _).block _ (by simpa using blk_lt HG3.out.cell) |>.trans (blk_set HG3.out.cell 0 _)) 1).trans rfl
              have HR6 := Aside0.mk hr6
              have HG6 := Aside0.mk hg6
              have HS6 := Aside0.mk hs6
              have HG2 := Aside0.mk g2
              have HW4 := Aside0.mk hw4
              clear hr6 hg6 hs6 g2 c1 c0 f0 hln hw4
              refine start_ (n := 8) (S := fun W' => W'.cell? ⟨B.g, 1, none⟩ = some (.map (some B.mb))) (ds := [7]) #[false, false, false, false, false, false, false, false] (by kernel_rfl) rfl rfl g1 (fun hHeld => ?_)
              refine pure_ (i := 0) (N := some 54) (v := ?_) (a' := ?_) (bb 8 1) rfl rfl (by kernel_rfl) (fun _ _ _ h => h) (Or.inl ⟨by rfl, ?_⟩) ?_ ?_
              rotate_left
              · intro w'
                go_simp
                with_reducible rfl
              rotate_left
              · simp only [Act.put, sa, sz, ss, i64_w, i32_w]
                rfl
              refine pure_ (i := 1) (N := some 55) (v := ?_) (a' := ?_) (bb 8 3) rfl rfl (by kernel_rfl) (fun _ _ _ h => h) (Or.inl ⟨by rfl, ?_⟩) ?_ ?_
              rotate_left
              · intro w'
                go_simp
                with_reducible rfl
              rotate_left
              · simp only [Act.put, sa, sz, ss, i64_w, i32_w]
                rfl
              refine pure_ (i := 2) (N := some 56) (v := ?_) (a' := ?_) (bb 8 7) rfl rfl (by kernel_rfl) (fun _ _ _ h => h) (Or.inl ⟨by rfl, ?_⟩) ?_ ?_
              rotate_left
              · intro w'
                go_simp
                with_reducible rfl
              rotate_left
              · simp only [Act.put, sa, sz, ss, i64_w, i32_w]
                rfl
              refine take_ (i := 3) (N := some 57) (v := ?_) (a' := ?_) (bb 8 15) rfl rfl (by kernel_rfl) (fun _ _ _ h => h) (Or.inl ⟨by rfl, ?_⟩) hHeld ?_ ?_
              rotate_left
              · rintro w' s1_
                go_simp
                with_reducible rfl
              rotate_left
              · simp only [Act.put, sa, sz, ss, i64_w, i32_w]
                rfl
              refine pure_ (i := 4) (N := some 58) (v := ?_) (a' := ?_) (bb 8 31) rfl rfl (by kernel_rfl) (fun _ _ _ h => h) (Or.inl ⟨by rfl, ?_⟩) ?_ ?_
              rotate_left
              · intro w'
                go_simp
                with_reducible rfl
              rotate_left
              · simp only [Act.put, sa, sz, ss, i64_w, i32_w]
                rfl
              refine pure_ (i := 5) (N := some 59) (v := ?_) (a' := ?_) (bb 8 63) rfl rfl (by kernel_rfl) (fun _ _ _ h => h) (Or.inl ⟨by rfl, ?_⟩) ?_ ?_
              rotate_left
              · intro w'
                go_simp
                with_reducible rfl
              rotate_left
              · simp only [Act.put, sa, sz, ss, i64_w, i32_w]
                rfl
              clear g1
              refine one_ (i := 6) (N := some 60) (bb 8 127) rfl rfl (by kernel_rfl) (by decide) (fun K hK => ?_)
              skip
              refine goes_ Tryz.func38 (by kernel_rfl) rfl #[.int .i64 1] (by rfl) rfl rfl (by (simp only [List.map_toArray, List.map_cons, List.map_nil]); rfl) ?_
              refine (made_calls 1 _).mono ?_
              rintro e_ WL1 ⟨rfl, rfl⟩
              refine ⟨_, rfl, ?_⟩
              refine hK.out _ _ HG2.out (fun hHeld => ?_)
              clear hK K
              refine norm_ (a' := ?_) ?_ ?_
              rotate_left
              · show Act.put _ (some 60) _ = _
                simp only [Act.put, sa, sz, ss, i64_w, i32_w]
                rfl
              refine last_ (i := 7) (N := none) (bb 8 255) rfl rfl (by kernel_rfl) (by decide) (fun K hK => ?_)
              refine step_update rfl (.tmp 57) (.tmp 58) (.tmp 60) 71 rfl rfl rfl rfl HR6.out ?_
              refine hK.out _ _ ?_
              clear hK K
              refine done_ (by kernel_rfl) ?_
              have hat : (GS.mk (G.next + 1) G.count (putO (G.next, newO 1) G.objs)).at gid = some o := by rw [at_putO, if_neg hgn]; exact HO.out
              have hcp := put_calls (B.plus G.next (W4.heap.size + 1) W4.heap.size) _ gid o (n3, G.next, ⟨#[]⟩) W6 HG6.out hat HNM.out G3 HP.out
              rw [GB.plus_ob hgn] at hcp
              have HCP := Aside0.mk hcp
              clear hcp hat
              go_wp2_with (go_at_call 42; refine HCP.out.mono ?_; rintro e_ w7 ⟨rfl, hg7, hs7⟩; have HG7 := Aside0.mk hg7; have HS7 := Aside0.mk hs7; clear hg7 hs7)
              go_ret2
              have hz : w1.heap.size ≤ W4.heap.size := by rw [HW4.out]; simpa using HW3.out.size
              have hfn : ∀ k, foot (B.plus G.next (W4.heap.size + 1) W4.heap.size) (GS.mk (G.next + 1) G.count (putO (G.next, newO 1) G.objs)) k → foot B G k ∨ w1.heap.size ≤ k := by
                intro k hk
                rcases foot_plus hk with h | rfl | rfl
                · exact .inl h
                · exact .inr (by omega)
                · exact .inr hz
              refine ⟨rfl, B.plus G.next (W4.heap.size + 1) W4.heap.size, rfl, HG7.out, fun k hk => hfn k (foot_keys (fun y hy => putG_keys HP.out hy) hk), ?_⟩
              have hs36 := (SameOn.of_below HW3.out).trans HS6.out
              exact ⟨Nat.le_trans hs36.size HS7.out.size, fun k hk hl => (HS7.out.same k (fun hf => (hfn k hf).elim hk (fun h => by omega)) (Nat.lt_of_lt_of_le hl hs36.size)).trans (hs36.same k hk hl), HS7.out.os.trans hs36.os, HS7.out.tape.trans hs36.tape, HS7.out.output.trans hs36.output⟩
            · go_enter Tryz.func16, Tryz.ntmps16
              go_upto_region 12 with (first
                | (go_at_call 39; refine (good_calls B G _ HG.out).mono ?_; rintro e_ w1 ⟨rfl, rfl⟩)
                | (go_at_call 41; refine (room_calls B G p _ HL.out HG.out gid 0 nm HR.out).mono ?_; rintro e_ w3 ⟨⟨v3, n3, rfl, hv3⟩, hw3⟩; obtain ⟨rfl, rfl⟩ := hv3 rfl; have HW3 := Aside0.mk hw3; have HG3 := Aside0.mk (HG.out.below hw3); clear hw3 hv3; have c1 := HG3.out.c1; have c0 := HG3.out.c0; have f0 := blk_frozen HG3.out.cell 0; have hln : ∀ ty, (Builtin.len_ #[71] ty #[.map (some B.mb)]).run Tryz.prog w3 = .ok (.int .i64 (G.objs.length : Int)) w3 := (fun ty => by have := HG3.out.objs.len Tryz.underlying71 ty; rwa [show (Maps.size (DataW.map (List.map (encO B.ob) G.objs))) = G.objs.length by simp [Maps.size]] at this)))
              obtain ⟨W4, hw4⟩ : ∃ W4, W4 = w3.setCell ⟨B.g, 0, none⟩ (.int .i64 (G.next + 1)) := ⟨_, rfl⟩
              rw [← hw4]
              obtain ⟨W6, hr6, hg6, hs6⟩ := add_lays B G 2 w3 W4 HG3.out HN.out (by have := HC.out; omega) (by have := HC.out; omega) (by have := HC.out; omega) hw4
              have g1 : W4.drew.cell? ⟨B.g, 1, none⟩ = some (.map (some B.mb)) := by rw [hw4]; exact (blk_cell (blk_set HG3.out.cell 0 _) 1).trans rfl
              have g2 : (madeW 2 W4.drew).cell? ⟨B.g, 1, none⟩ = some (.map (some B.mb)) := by
                rw [hw4]
                exact (blk_cell ((madeW_below 2 _).block _ (by simpa using blk_lt HG3.out.cell) |>.trans (blk_set HG3.out.cell 0 _)) 1).trans rfl
              have HR6 := Aside0.mk hr6
              have HG6 := Aside0.mk hg6
              have HS6 := Aside0.mk hs6
              have HG2 := Aside0.mk g2
              have HW4 := Aside0.mk hw4
              clear hr6 hg6 hs6 g2 c1 c0 f0 hln hw4
              refine start_ (n := 8) (S := fun W' => W'.cell? ⟨B.g, 1, none⟩ = some (.map (some B.mb))) (ds := [7]) #[false, false, false, false, false, false, false, false] (by kernel_rfl) rfl rfl g1 (fun hHeld => ?_)
              refine pure_ (i := 0) (N := some 54) (v := ?_) (a' := ?_) (bb 8 1) rfl rfl (by kernel_rfl) (fun _ _ _ h => h) (Or.inl ⟨by rfl, ?_⟩) ?_ ?_
              rotate_left
              · intro w'
                go_simp
                with_reducible rfl
              rotate_left
              · simp only [Act.put, sa, sz, ss, i64_w, i32_w]
                rfl
              refine pure_ (i := 1) (N := some 55) (v := ?_) (a' := ?_) (bb 8 3) rfl rfl (by kernel_rfl) (fun _ _ _ h => h) (Or.inl ⟨by rfl, ?_⟩) ?_ ?_
              rotate_left
              · intro w'
                go_simp
                with_reducible rfl
              rotate_left
              · simp only [Act.put, sa, sz, ss, i64_w, i32_w]
                rfl
              refine pure_ (i := 2) (N := some 56) (v := ?_) (a' := ?_) (bb 8 7) rfl rfl (by kernel_rfl) (fun _ _ _ h => h) (Or.inl ⟨by rfl, ?_⟩) ?_ ?_
              rotate_left
              · intro w'
                go_simp
                with_reducible rfl
              rotate_left
              · simp only [Act.put, sa, sz, ss, i64_w, i32_w]
                rfl
              refine take_ (i := 3) (N := some 57) (v := ?_) (a' := ?_) (bb 8 15) rfl rfl (by kernel_rfl) (fun _ _ _ h => h) (Or.inl ⟨by rfl, ?_⟩) hHeld ?_ ?_
              rotate_left
              · rintro w' s1_
                go_simp
                with_reducible rfl
              rotate_left
              · simp only [Act.put, sa, sz, ss, i64_w, i32_w]
                rfl
              refine pure_ (i := 4) (N := some 58) (v := ?_) (a' := ?_) (bb 8 31) rfl rfl (by kernel_rfl) (fun _ _ _ h => h) (Or.inl ⟨by rfl, ?_⟩) ?_ ?_
              rotate_left
              · intro w'
                go_simp
                with_reducible rfl
              rotate_left
              · simp only [Act.put, sa, sz, ss, i64_w, i32_w]
                rfl
              refine pure_ (i := 5) (N := some 59) (v := ?_) (a' := ?_) (bb 8 63) rfl rfl (by kernel_rfl) (fun _ _ _ h => h) (Or.inl ⟨by rfl, ?_⟩) ?_ ?_
              rotate_left
              · intro w'
                go_simp
                with_reducible rfl
              rotate_left
              · simp only [Act.put, sa, sz, ss, i64_w, i32_w]
                rfl
              clear g1
              refine one_ (i := 6) (N := some 60) (bb 8 127) rfl rfl (by kernel_rfl) (by decide) (fun K hK => ?_)
              skip
              refine goes_ Tryz.func38 (by kernel_rfl) rfl #[.int .i64 2] (by rfl) rfl rfl (by (simp only [List.map_toArray, List.map_cons, List.map_nil]); rfl) ?_
              refine (made_calls 2 _).mono ?_
              rintro e_ WL1 ⟨rfl, rfl⟩
              refine ⟨_, rfl, ?_⟩
              refine hK.out _ _ HG2.out (fun hHeld => ?_)
              clear hK K
              refine norm_ (a' := ?_) ?_ ?_
              rotate_left
              · show Act.put _ (some 60) _ = _
                simp only [Act.put, sa, sz, ss, i64_w, i32_w]
                rfl
              refine last_ (i := 7) (N := none) (bb 8 255) rfl rfl (by kernel_rfl) (by decide) (fun K hK => ?_)
              refine step_update rfl (.tmp 57) (.tmp 58) (.tmp 60) 71 rfl rfl rfl rfl HR6.out ?_
              refine hK.out _ _ ?_
              clear hK K
              refine done_ (by kernel_rfl) ?_
              have hat : (GS.mk (G.next + 1) G.count (putO (G.next, newO 2) G.objs)).at gid = some o := by rw [at_putO, if_neg hgn]; exact HO.out
              have hcp := put_calls (B.plus G.next (W4.heap.size + 1) W4.heap.size) _ gid o (n3, G.next, ⟨#[]⟩) W6 HG6.out hat HNM.out G3 HP.out
              rw [GB.plus_ob hgn] at hcp
              have HCP := Aside0.mk hcp
              clear hcp hat
              go_wp2_with (go_at_call 42; refine HCP.out.mono ?_; rintro e_ w7 ⟨rfl, hg7, hs7⟩; have HG7 := Aside0.mk hg7; have HS7 := Aside0.mk hs7; clear hg7 hs7)
              go_ret2
              have hz : w1.heap.size ≤ W4.heap.size := by rw [HW4.out]; simpa using HW3.out.size
              have hfn : ∀ k, foot (B.plus G.next (W4.heap.size + 1) W4.heap.size) (GS.mk (G.next + 1) G.count (putO (G.next, newO 2) G.objs)) k → foot B G k ∨ w1.heap.size ≤ k := by
                intro k hk
                rcases foot_plus hk with h | rfl | rfl
                · exact .inl h
                · exact .inr (by omega)
                · exact .inr hz
              refine ⟨rfl, B.plus G.next (W4.heap.size + 1) W4.heap.size, rfl, HG7.out, fun k hk => hfn k (foot_keys (fun y hy => putG_keys HP.out hy) hk), ?_⟩
              have hs36 := (SameOn.of_below HW3.out).trans HS6.out
              exact ⟨Nat.le_trans hs36.size HS7.out.size, fun k hk hl => (HS7.out.same k (fun hf => (hfn k hf).elim hk (fun h => by omega)) (Nat.lt_of_lt_of_le hl hs36.size)).trans (hs36.same k hk hl), HS7.out.os.trans hs36.os, HS7.out.tape.trans hs36.tape, HS7.out.output.trans hs36.output⟩
      · have hif : (if re = 0 ∧ G.objs.length = 128 then (7 : Int) else re) = re := if_neg (fun q => hre q.1)
        rw [hif, if_neg hre] at h
        obtain ⟨rfl, rfl, rfl⟩ : (0 : Int) = id ∧ re = e ∧ G = G2 := by simpa using h
        have hreb : (re == 0) = false := by simpa using hre
        have hreb2 : (re != 0) = true := by simpa using hre
        clear h hr
        rcases hk with rfl | rfl <;> (
          go_enter Tryz.func16, Tryz.ntmps16
          go_wp2_with (first
            | (go_at_call 39; refine (good_calls B G _ HG.out).mono ?_; rintro e_ w1 ⟨rfl, rfl⟩)
            | (go_at_call 41; refine (room_calls B G p _ HL.out HG.out gid re nm HR.out).mono ?_; rintro e_ w3 ⟨⟨v3, n3, rfl, hv3⟩, hw3⟩; have HW3 := Aside0.mk hw3; have HG3 := Aside0.mk (HG.out.below hw3); clear hw3 hv3))
          go_ret2
          exact ⟨rfl, B, rfl, HG3.out, fun k hk => .inl hk, SameOn.of_below HW3.out⟩)
  · rw [if_neg hk] at h
    obtain ⟨rfl, rfl, rfl⟩ : (0 : Int) = id ∧ (2 : Int) = e ∧ G = G2 := by simpa using h
    have hk1 : (kind != 1) = true := by simpa using (fun q => hk (.inl q) : ¬ kind = 1)
    have hk2 : (kind != 2) = true := by simpa using (fun q => hk (.inr q) : ¬ kind = 2)
    clear h
    go_enter Tryz.func16, Tryz.ntmps16
    go_wp2_with (go_at_call 39; refine (good_calls B G _ HG.out).mono ?_; rintro e_ w1 ⟨rfl, rfl⟩)
    go_ret2
    exact ⟨rfl, B, rfl, HG.out, fun k hk => .inl hk, SameOn.refl _ _⟩
end
end Go.Proofs.YthifdofdoeaemaaGreatDoor.Wk
end
section
namespace Go.Proofs.YthifdofdoeaemaaGreatDoor.Wk
open Go.RowKit Go.Proofs.YthifdofdoeaemaaGreatDoorW.PrintWords Go.Proofs.YthifdofdoeaemaaGreatDoorW.PrintLast Go.Proofs.YthifdofdoeaemaaGreatDoorW.PrintMore
attribute [local go_sem] max2_int min2_int max_two min_two max_three min_three max_four min_four
set_option linter.unusedVariables false
set_option linter.unusedSimpArgs false
section
open Go.RowKit Go.Lib Go.Maps Go.Proofs.YthifdofdoeaemaaGreatDoorQ
attribute [local go_sem] Oper.semAt_some
def Swept (w : World) (B : GB) (G : GS) (r : List Int) (G2 : GS) (ev : Ending) (w' : World) : Prop :=
  ∃ v, ev = .returned v ∧ w'.ownsRow w.heap.size 3 1 v r.length (r.map (.int .i64)) ∧ GraphAt w' B G2 ∧ (∀ y ∈ G2.objs, ∃ z ∈ G.objs, y.1 = z.1) ∧ SameOn (fun k => ¬ foot B G k) w w'
theorem GraphAt.delL {A : World} {B : GB} {G : GS} (h : GraphAt A B G) {id : Int} {o : GO} (ho : G.at id = some o) (n : ByteArray) (hk : keyOf Tryz.prog 9 (.string n) = some (keyL n)) :
    ∃ W, (Builtin.delete_ #[87, 9] 0 #[.map (some (B.lb id)), .string n]).run Tryz.prog A = .ok (.tuple #[]) W ∧
      GraphAt W B { G with objs := setO G.objs id (fun o => { o with links := delK n o.links }) } ∧ SameOn (fun k => k ≠ B.lb id) A W := by
  have hb := h.obj ho
  obtain ⟨W, hr, hW, ht⟩ := hb.2.drop (string_keyed Tryz.underlying9) Tryz.underlying87 hk 0
  have hg := ht.grown
  rw [del_L] at hW
  have hW2 := own_tight hW
  rw [List.length_map] at hW2
  have hs : ∀ k, k ≠ B.lb id → k < A.heap.size → W.heap[k]? = A.heap[k]? := fun k hk hl => hg.block k hl (fun e => hk (by injection e))
  refine ⟨W, hr, h.turnO ho _ ⟨(hs _ (h.ob_lb (at_mem ho) (at_mem ho)) (blk_lt hb.1)).trans hb.1, hW2⟩ (fun k _ _ h2 hl => hs k h2 hl), ?_⟩
  exact ⟨hg.size, fun k h1 h2 => hs k h1 h2, hg.os, hg.tape, hg.output⟩
def lnkV (k : Option Lk) : Lk := k.getD (⟨#[]⟩, 0, ⟨#[]⟩)
theorem ObjAt.look2 {W : World} {B : GB} {x : Int × GO} (h : ObjAt W B x) (n : ByteArray) (hz : (zeroValue 42).run Tryz.prog W = .ok (.agg #[.string ⟨#[]⟩, .int .i64 0, .string ⟨#[]⟩]) W) (hk : keyOf Tryz.prog 9 (.string n) = some (keyL n)) :
    (Instr.lookup 87 (.map (some (B.lb x.1))) (.string n) false).run Tryz.prog W = .ok (.agg #[.string (lnkV (lnk x.2.links n)).1, .int .i64 (lnkV (lnk x.2.links n)).2.1, .string (lnkV (lnk x.2.links n)).2.2]) W := by
  rw [h.look1 n hz hk]
  cases lnk x.2.links n <;> rfl
set_option maxHeartbeats 8000000 in
set_option maxRecDepth 100000 in
theorem cut_calls (rec : GS → Int → Option (List Int × GS)) (B : GB)
    (hrec : ∀ (G : GS) (id : Int) (r : List Int) (G2 : GS) (w : World), GraphAt w B G → rec G id = some (r, G2) → Calls Tryz.prog 50 #[.pointer (some ⟨B.g, 0, none⟩), .int .i64 id] w (Swept w B G r G2))
    (G : GS) (id : Int) (o : GO) (n : ByteArray) (w : World) (hG : GraphAt w B G) (ho : G.at id = some o) (hk : keyOf Tryz.prog 9 (.string n) = some (keyL n)) (r : List Int) (G2 : GS) (h : cutG rec G id n = some (r, G2)) :
    Calls Tryz.prog 45 #[.pointer (some ⟨B.g, 0, none⟩), .pointer (some ⟨B.ob id, 0, none⟩), .string n] w (Swept w B G r G2) := by
  unfold cutG at h
  rw [ho] at h
  simp only at h
  by_cases hc : -4611686018427387904 < G.count ∧ G.count < 4611686018427387904
  rotate_left
  · rw [if_neg hc] at h; cases h
  rw [if_pos hc] at h
  obtain ⟨hc2, hc3⟩ := hc
  obtain ⟨k, hkd⟩ : ∃ k, k = lnkV (lnk o.links n) := ⟨_, rfl⟩
  obtain ⟨bx, hbx⟩ : ∃ bx, bx = Obj.cells #[.string k.1, .int .i64 k.2.1, .string k.2.2] 42 (0, 0) := ⟨_, rfl⟩
  have hlk := (hG.obj ho).look2 n (Tryz.zeroValue42 w) hk
  simp only [← hkd] at hlk
  have hG0 : GraphAt (w.alloc bx) B G := hG.below (below_alloc (Below.refl _ _) _)
  have hwc : wrap64 (G.count - 1) = G.count - 1 := by unfold wrap64; omega
  obtain ⟨W1, hr1, hG1, hs1⟩ := hG0.delL ho n hk
  have hgl : B.g ≠ B.lb id := hG.g_lb (at_mem ho)
  have hlf : foot B G (B.lb id) := .inr (.inr ⟨_, at_mem ho, .inr rfl⟩)
  have hlb : B.lb id ≠ w.heap.size := by have := (hG.obj ho).2.lt; simp only at this; omega
  have hgs : B.g ≠ w.heap.size := by have := blk_lt hG.cell; omega
  have hs01 : SameOn (fun k => ¬ foot B G k) w W1 := (SameOn.of_below (below_alloc (Below.refl _ _) _)).trans (hs1.mono (fun k hk e => hk (e ▸ hlf)))
  obtain ⟨W2, hw2⟩ : ∃ W2, W2 = W1.setCell ⟨B.g, 2, none⟩ (.int .i64 (G.count - 1)) := ⟨_, rfl⟩
  have c2 : W2.heap[B.g]? = some (.cells #[.int .i64 G.next, .map (some B.mb), .int .i64 (G.count - 1)] 73 (0, 0)) := by rw [hw2]; exact (blk_set hG1.cell 2 _).trans rfl
  have hG2 := hG1.turnG (W := W2) G.next (G.count - 1) c2 (fun k _ hk _ => by rw [hw2]; exact Below.heap_setCell _ _ _ _ hk)
  have hs02 : SameOn (fun k => ¬ foot B G k) w W2 := hs01.trans (by rw [hw2]; exact SameOn.setCell _ _ _ (fun hn => hn (.inl rfl)))
  have hbx0 : (w.alloc bx).heap[w.heap.size]? = some bx := World.alloc_heap_new _ _
  have hbx1 : W1.heap[w.heap.size]? = some bx := (hs1.same _ hlb.symm (by simp)).trans hbx0
  have hbx2 : W2.heap[w.heap.size]? = some bx := by rw [hw2]; exact (Below.heap_setCell _ _ _ _ hgs.symm).trans hbx1
  have c10 : W1.cell? ⟨B.g, 2, none⟩ = some (.int .i64 G.count) := hG1.c2
  have f10 : W1.frozen? ⟨B.g, 2, none⟩ = false := blk_frozen hG1.cell 2
  have o00 := (hG.obj ho).c1
  have o01 : (w.alloc bx).cell? ⟨B.ob id, 1, none⟩ = some (.map (some (B.lb id))) := (hG0.obj ho).c1
  have b21 : W2.cell? ⟨w.heap.size, 1, none⟩ = some (.int .i64 k.2.1) := by rw [hbx] at hbx2; exact (blk_cell hbx2 1).trans rfl
  have HG2 := Aside0.mk hG2
  have HS2 := Aside0.mk hs02
  have HW2 := Aside0.mk hw2
  have HBX := Aside0.mk hbx
  have HBX2 := Aside0.mk hbx2
  have hkeys : ∀ y ∈ setO G.objs id (fun o => { o with links := delK n o.links }), ∃ z ∈ G.objs, y.1 = z.1 := fun y hy => key_setO hy
  rw [hbx] at hr1 o01
  clear hG0 hG1 hs1 hs01 hs02 hbx0 hbx1 hG2 hbx2 hw2 hbx
  by_cases ht : k.2.1 = 0
  · have hres : r = [] ∧ G2 = GS.mk G.next (G.count - 1) (setO G.objs id (fun o => { o with links := delK n o.links })) := by
      cases hl : lnk o.links n with
      | none => rw [hl] at h; cases h; exact ⟨rfl, rfl⟩
      | some q =>
        rw [hl] at h hkd
        have hq : k = q := hkd
        rw [hq] at ht
        simp only [if_pos ht] at h
        cases h
        exact ⟨rfl, rfl⟩
    obtain ⟨rfl, rfl⟩ := hres
    have htb : (k.2.1 == 0) = true := by simpa using ht
    have HD := Aside0.mk hkd
    clear h hkd ht
    go_enter Tryz.func45, Tryz.ntmps45
    go_upto_region 4 with (fail)
    rw [← HW2.out]
    clear c10 f10 hr1 o00 o01
    go_wp2
    go_ret
    exact ⟨_, rfl, World.ownsRow_nil _ _ _ _, HG2.out, hkeys, HS2.out⟩
  · have htb : (k.2.1 == 0) = false := by simpa using ht
    have hl : lnk o.links n = some k := by
      cases hl : lnk o.links n with
      | none => rw [hl] at hkd; rw [hkd] at ht; exact absurd rfl ht
      | some q => rw [hl] at hkd; rw [hkd]; rfl
    rw [hl] at h
    simp only [if_neg ht] at h
    have HD := Aside0.mk hkd
    clear hkd ht hl
    rw [at_setO] at h
    cases hgt : G.at k.2.1 with
    | none => rw [hgt] at h; cases h
    | some y =>
      rw [hgt] at h
      simp only [Option.map_some] at h
      obtain ⟨y2, hy2⟩ : ∃ y2, y2 = (if k.2.1 = id then { y with links := delK n y.links } else y) := ⟨_, rfl⟩
      rw [← hy2] at h
      by_cases hb : -4611686018427387904 < y2.leads ∧ y2.leads < 4611686018427387904
      rotate_left
      · rw [if_neg hb] at h; cases h
      rw [if_pos hb] at h
      have hwl : wrap64 (y2.leads - 1) = y2.leads - 1 := by obtain ⟨h1, h2⟩ := hb; unfold wrap64; omega
      have hat2 : (GS.mk G.next (G.count - 1) (setO G.objs id (fun o => { o with links := delK n o.links }))).at k.2.1 = some y2 := by rw [at_setO, hgt, hy2]; rfl
      have HAT := Aside0.mk hat2
      have HREC := Aside0.mk h
      clear hat2 hy2 hb hgt h
      have hG3 : GraphAt W2.drew B _ := HG2.out.below (below_drew (Below.refl _ _))
      have hl3 := hG3.lookAt HAT.out
      have HO3 := Aside0.mk (hG3.obj HAT.out)
      have HG3 := Aside0.mk hG3
      have g31 : W2.drew.cell? ⟨B.g, 1, none⟩ = some (.map (some B.mb)) := hG3.c1
      have o32 : W2.drew.cell? ⟨B.ob k.2.1, 2, none⟩ = some (.int .i64 y2.leads) := (hG3.obj HAT.out).c2
      have hS : W2.drew.cell? ⟨B.g, 1, none⟩ = some (.map (some B.mb)) ∧ W2.drew.cell? ⟨w.heap.size, 1, none⟩ = some (.int .i64 k.2.1) ∧ (Instr.lookup 71 (.map (some B.mb)) (.int .i64 k.2.1) false).run Tryz.prog W2.drew = .ok (.pointer (some ⟨B.ob k.2.1, 0, none⟩)) W2.drew ∧ W2.drew.cell? ⟨B.ob k.2.1, 2, none⟩ = some (.int .i64 y2.leads) := ⟨g31, b21, hl3, o32⟩
      have HSS := Aside0.mk hS
      obtain ⟨W3, hw3⟩ : ∃ W3, W3 = W2.drew.setCell ⟨B.ob k.2.1, 2, none⟩ (.int .i64 (wrap64 (y2.leads - 1))) := ⟨_, rfl⟩
      have hf3 : W2.drew.frozen? ⟨B.ob k.2.1, 2, none⟩ = false := blk_frozen HO3.out.1 2
      have hr3 : (Instr.storeAt 3 (.pointer (some ⟨B.ob k.2.1, 2, none⟩)) (.int .i64 (wrap64 (y2.leads - 1)))).run Tryz.prog W2.drew = .ok () W3 := by
        rw [hw3]
        go_simp
      have hfin : GraphAt W3 B { (GS.mk G.next (G.count - 1) (setO G.objs id (fun o => { o with links := delK n o.links }))) with objs := setO (setO G.objs id (fun o => { o with links := delK n o.links })) k.2.1 (fun o => { o with leads := o.leads - 1 }) } := by
        refine HG3.out.turnO HAT.out _ ⟨?_, own_same HO3.out.2 ?_⟩ (fun k _ hk _ _ => ?_)
        · rw [hw3, hwl]; exact (blk_set HO3.out.1 2 _).trans rfl
        · rw [hw3]; exact Below.heap_setCell _ _ _ _ (HG3.out.ob_lb (at_mem HAT.out) (at_mem HAT.out)).symm
        · rw [hw3]; exact Below.heap_setCell _ _ _ _ hk
      have hfo : foot B G (B.ob k.2.1) := foot_setO (.inr (.inr ⟨_, at_mem HAT.out, .inl rfl⟩))
      have hsf : SameOn (fun k => ¬ foot B G k) w W3 := by
        rw [hw3]
        exact (HS2.out.trans (SameOn.of_below (below_drew (Below.refl _ _)))).trans (SameOn.setCell _ _ _ (fun hn => hn hfo))
      have b31 : W3.cell? ⟨w.heap.size, 1, none⟩ = some (.int .i64 k.2.1) := by
        have h1 : W3.heap[w.heap.size]? = some bx := by
          rw [hw3]
          exact (Below.heap_setCell _ _ _ _ (show w.heap.size ≠ B.ob k.2.1 from fun e => by have := hG.foot_lt hfo; omega)).trans HBX2.out
        rw [HBX.out] at h1
        exact (blk_cell h1 1).trans rfl
      have HFIN := Aside0.mk hfin
      have HSF := Aside0.mk hsf
      have HR3 := Aside0.mk hr3
      have B31 := Aside0.mk b31
      clear hfin hsf hr3 hw3 hf3 hS o32 g31 hl3 hG3 c2 hfo b31
      go_enter Tryz.func45, Tryz.ntmps45
      go_upto_region 4 with (fail)
      rw [← HW2.out]
      clear c10 f10 hr1 o00 o01
      go_upto_region 6 with (fail)
      refine start_ (n := 14) (S := fun W' => W'.cell? ⟨B.g, 1, none⟩ = some (.map (some B.mb)) ∧ W'.cell? ⟨w.heap.size, 1, none⟩ = some (.int .i64 k.2.1) ∧ (Instr.lookup 71 (.map (some B.mb)) (.int .i64 k.2.1) false).run Tryz.prog W' = .ok (.pointer (some ⟨B.ob k.2.1, 0, none⟩)) W' ∧ W'.cell? ⟨B.ob k.2.1, 2, none⟩ = some (.int .i64 y2.leads)) (ds := [13]) #[false, false, false, false, false, false, false, false, false, false, false, false, false, false] (by kernel_rfl) rfl rfl HSS.out (fun hHeld => ?_)
      refine pure_ (i := 0) (N := some 29) (v := ?_) (a' := ?_) (bb 14 1) rfl rfl (by kernel_rfl) (fun _ _ _ h => h) (Or.inl ⟨by rfl, ?_⟩) ?_ ?_
      rotate_left
      · intro w'
        go_simp
        with_reducible rfl
      rotate_left
      · simp only [Act.put, sa, sz, ss, i64_w, i32_w]
        rfl
      refine pure_ (i := 1) (N := some 30) (v := ?_) (a' := ?_) (bb 14 3) rfl rfl (by kernel_rfl) (fun _ _ _ h => h) (Or.inl ⟨by rfl, ?_⟩) ?_ ?_
      rotate_left
      · intro w'
        go_simp
        with_reducible rfl
      rotate_left
      · simp only [Act.put, sa, sz, ss, i64_w, i32_w]
        rfl
      refine pure_ (i := 2) (N := some 31) (v := ?_) (a' := ?_) (bb 14 7) rfl rfl (by kernel_rfl) (fun _ _ _ h => h) (Or.inl ⟨by rfl, ?_⟩) ?_ ?_
      rotate_left
      · intro w'
        go_simp
        with_reducible rfl
      rotate_left
      · simp only [Act.put, sa, sz, ss, i64_w, i32_w]
        rfl
      refine take_ (i := 3) (N := some 32) (v := ?_) (a' := ?_) (bb 14 15) rfl rfl (by kernel_rfl) (fun _ _ _ h => h) (Or.inl ⟨by rfl, ?_⟩) hHeld ?_ ?_
      rotate_left
      · rintro w' ⟨s1_, s2_, s3_, s4_⟩
        go_simp
        with_reducible rfl
      rotate_left
      · simp only [Act.put, sa, sz, ss, i64_w, i32_w]
        rfl
      refine pure_ (i := 4) (N := some 33) (v := ?_) (a' := ?_) (bb 14 31) rfl rfl (by kernel_rfl) (fun _ _ _ h => h) (Or.inl ⟨by rfl, ?_⟩) ?_ ?_
      rotate_left
      · intro w'
        go_simp
        with_reducible rfl
      rotate_left
      · simp only [Act.put, sa, sz, ss, i64_w, i32_w]
        rfl
      refine take_ (i := 5) (N := some 34) (v := ?_) (a' := ?_) (bb 14 63) rfl rfl (by kernel_rfl) (fun _ _ _ h => h) (Or.inl ⟨by rfl, ?_⟩) hHeld ?_ ?_
      rotate_left
      · rintro w' ⟨s1_, s2_, s3_, s4_⟩
        go_simp
        with_reducible rfl
      rotate_left
      · simp only [Act.put, sa, sz, ss, i64_w, i32_w]
        rfl
      refine take_ (i := 6) (N := some 35) (v := ?_) (a' := ?_) (bb 14 127) rfl rfl (by kernel_rfl) (fun _ _ _ h => h) (Or.inl ⟨by rfl, ?_⟩) hHeld ?_ ?_
      rotate_left
      · rintro w' ⟨s1_, s2_, s3_, s4_⟩
        go_simp
        with_reducible rfl
      rotate_left
      · simp only [Act.put, sa, sz, ss, i64_w, i32_w]
        rfl
      refine pure_ (i := 7) (N := some 36) (v := ?_) (a' := ?_) (bb 14 255) rfl rfl (by kernel_rfl) (fun _ _ _ h => h) (Or.inl ⟨by rfl, ?_⟩) ?_ ?_
      rotate_left
      · intro w'
        go_simp
        with_reducible rfl
      rotate_left
      · simp only [Act.put, sa, sz, ss, i64_w, i32_w]
        rfl
      refine pure_ (i := 8) (N := some 37) (v := ?_) (a' := ?_) (bb 14 511) rfl rfl (by kernel_rfl) (fun _ _ _ h => h) (Or.inl ⟨by rfl, ?_⟩) ?_ ?_
      rotate_left
      · intro w'
        go_simp
        with_reducible rfl
      rotate_left
      · simp only [Act.put, sa, sz, ss, i64_w, i32_w]
        rfl
      refine take_ (i := 9) (N := some 38) (v := ?_) (a' := ?_) (bb 14 1023) rfl rfl (by kernel_rfl) (fun _ _ _ h => h) (Or.inl ⟨by rfl, ?_⟩) hHeld ?_ ?_
      rotate_left
      · rintro w' ⟨s1_, s2_, s3_, s4_⟩
        go_simp
        with_reducible rfl
      rotate_left
      · simp only [Act.put, sa, sz, ss, i64_w, i32_w]
        rfl
      refine pure_ (i := 10) (N := some 39) (v := ?_) (a' := ?_) (bb 14 2047) rfl rfl (by kernel_rfl) (fun _ _ _ h => h) (Or.inl ⟨by rfl, ?_⟩) ?_ ?_
      rotate_left
      · intro w'
        go_simp
        with_reducible rfl
      rotate_left
      · simp only [Act.put, sa, sz, ss, i64_w, i32_w]
        rfl
      refine pure_ (i := 11) (N := some 40) (v := ?_) (a' := ?_) (bb 14 4095) rfl rfl (by kernel_rfl) (fun _ _ _ h => h) (Or.inl ⟨by rfl, ?_⟩) ?_ ?_
      rotate_left
      · intro w'
        go_simp
        with_reducible rfl
      rotate_left
      · simp only [Act.put, sa, sz, ss, i64_w, i32_w]
        rfl
      refine pure_ (i := 12) (N := some 41) (v := ?_) (a' := ?_) (bb 14 8191) rfl rfl (by kernel_rfl) (fun _ _ _ h => h) (Or.inl ⟨by rfl, ?_⟩) ?_ ?_
      rotate_left
      · intro w'
        go_simp
        with_reducible rfl
      rotate_left
      · simp only [Act.put, sa, sz, ss, i64_w, i32_w]
        rfl
      refine last_ (i := 13) (N := none) (bb 14 16383) rfl rfl (by kernel_rfl) (by decide) (fun K hK => ?_)
      refine step_store rfl (.tmp 41) (.tmp 39) 3 rfl rfl rfl HR3.out ?_
      refine hK.out _ _ ?_
      clear hK K
      refine done_ (by kernel_rfl) ?_
      clear HSS hHeld b21
      have b31 := B31.out
      go_wp2_with (go_at_call 50; refine (hrec _ _ r G2 _ HFIN.out HREC.out).mono ?_; rintro e_ w4 ⟨v4, rfl, hr4, hg4, hk4, hs4⟩; have HR4 := Aside0.mk hr4; have HG4 := Aside0.mk hg4; have HK4 := Aside0.mk hk4; have HS4 := Aside0.mk hs4; clear hr4 hg4 hk4 hs4)
      go_ret
      have hkk : ∀ y ∈ (setO (setO G.objs id (fun o => { o with links := delK n o.links })) k.2.1 (fun o => { o with leads := o.leads - 1 })), ∃ z ∈ G.objs, y.1 = z.1 := fun y hy => by
        obtain ⟨a, ha, e⟩ := key_setO hy
        obtain ⟨b, hb, e2⟩ := key_setO ha
        exact ⟨b, hb, e.trans e2⟩
      refine ⟨_, rfl, HR4.out.mono HSF.out.size, HG4.out, fun y hy => ?_, HSF.out.trans (HS4.out.mono (fun k hk hf => hk (foot_keys hkk hf)))⟩
      obtain ⟨a, ha, e⟩ := HK4.out y hy
      obtain ⟨b, hb, e2⟩ := hkk a ha
      exact ⟨b, hb, e.trans e2⟩
end
end Go.Proofs.YthifdofdoeaemaaGreatDoor.Wk
end
section
namespace Go.Proofs.YthifdofdoeaemaaGreatDoor.Wk
open Go.RowKit Go.Proofs.YthifdofdoeaemaaGreatDoorW.PrintWords Go.Proofs.YthifdofdoeaemaaGreatDoorW.PrintLast Go.Proofs.YthifdofdoeaemaaGreatDoorW.PrintMore
attribute [local go_sem] max2_int min2_int max_two min_two max_three min_three max_four min_four
set_option linter.unusedVariables false
set_option linter.unusedSimpArgs false
section
open Go.RowKit Go.Lib Go.Maps Go.Sort Go.Shelf Go.Proofs.YthifdofdoeaemaaGreatDoorQ
theorem le_of_before : ∀ a b : List UInt8, bytesBefore a b = true → ¬ b < a
  | [], [], h => by simp [bytesBefore] at h
  | [], _ :: _, _ => by simp
  | _ :: _, [], h => by simp [bytesBefore] at h
  | a :: r, b :: s, h => by
    simp only [bytesBefore, Bool.or_eq_true, Bool.and_eq_true, decide_eq_true_eq, beq_iff_eq] at h
    rw [List.cons_lt_cons_iff]
    rintro (h1 | ⟨h1, h2⟩)
    · rcases h with h | ⟨h, -⟩
      · exact absurd h1 (UInt8.lt_asymm h)
      · subst h; exact absurd h1 (UInt8.lt_irrefl _)
    · subst h1
      rcases h with h | ⟨-, h⟩
      · exact absurd h (UInt8.lt_irrefl _)
      · exact le_of_before r s h h2
theorem own_rising {w : World} {P : Program} {k : TypeId} {R : Value → Option (DataW Unit × List MemPlace)} {b n : Nat} {es : List (Lit × DataW Unit)} (K : Keyed P k) (h : w.ownsMap P k R b n (.map es)) : es.Pairwise (fun p q => p.1.before q.1 = true) := by
  obtain ⟨e, he, hp, -⟩ := h.canon K
  cases he
  exact hp
theorem strKeys_L (l : List Lk) : strKeys (DataW.map (l.map encL)) = l.map (fun x => x.1.data.toList) := by
  simp [strKeys, strOf, encL, keyL]
theorem sorted_L {l : List Lk} (hp : (l.map encL).Pairwise (fun p q => p.1.before q.1 = true)) {ss : List (List UInt8)} (h : ss.Perm (strKeys (DataW.map (l.map encL)))) : ss.mergeSort leB = l.map (fun x => x.1.data.toList) := by
  rw [mergeSort_of_perm h, strKeys_L]
  refine List.mergeSort_of_pairwise ?_
  rw [List.pairwise_map] at hp ⊢
  refine hp.imp (fun {a b} hab => ?_)
  exact decide_eq_true (List.not_lt.1 (le_of_before _ _ hab))
theorem sorts_str (m : Nat) : AnyZ.SortsIn Tryz.prog Tryz.sorted77_ren Fence.wide m :=
  ⟨fun blk off cap ss W hH hblk hsz => callsIn_wide.2 (AnyM.slices_Sort_string Tryz.sort109 blk off cap ss W hH hblk hsz),
   fun p cap W => callsIn_wide.2 (AnyM.slices_Sort_string_none Tryz.sort109 p cap W)⟩
theorem keysL_calls (mb : Option Nat) (W : World) : Calls Tryz.prog 78 #[.map mb] W fun e w' => e = .returned (.func (.func 110) #[] #[.pointer (some ⟨W.heap.size, 0, none⟩)]) ∧ w' = W.alloc (.cells #[.map mb] 87) :=
  (callsIn_wide (n := 5)).1 (AnyZ.keys_in Tryz.keys78 Fence.wide 5 trivial rfl mb W)
set_option maxHeartbeats 1000000 in
theorem sortedL_calls (b n : Nat) (l : List Lk) (w : World) (hown : w.ownsMap Tryz.prog 9 readL b n (.map (l.map encL))) (hb : l.length ≤ bound) :
    Calls Tryz.prog 77 #[.func (.func 110) #[] #[.pointer (some ⟨w.heap.size, 0, none⟩)]] (w.alloc (.cells #[.map (some b)] 87)) fun e w' =>
      ∃ v, e = .returned v ∧ w'.ownsRow w.heap.size 9 1 v l.length (l.map (fun x => .string x.1)) ∧ Below (w.heap.size + 1) (w.alloc (.cells #[.map (some b)] 87)) w' := by
  have hbl := hown.lt
  have hsz : Maps.size (DataW.map (H := Unit) (l.map encL)) = l.length := by simp [Maps.size]
  have hseq : SeqGives Fence.wide 2 Tryz.prog 110 #[.pointer (some ⟨w.heap.size, 0, none⟩)] encStr (fun ss => ss.Perm (strKeys (DataW.map (H := Unit) (l.map encL)))) (Maps.size (DataW.map (H := Unit) (l.map encL))) (w.alloc (.cells #[.map (some b)] 87)) :=
    AnyZ.keys_gives (ρ := Tryz.keys78_ren) { Tryz.keys78 with } Fence.wide _ trivial rfl (by omega) w.heap.size b n _ _ (by simp) (by simp) (by
      obtain ⟨es, clock, hb, Ft, hs, hD⟩ := hown
      exact ⟨es, clock, (Below.heap_alloc _ _ b hbl).trans hb, Ft, hs, hD⟩)
  have hc := AnyZ.sorted_in Tryz.sorted77 Fence.wide 5 trivial trivial trivial trivial rfl (by omega) (sorts_str _) (enters_of Tryz.func109 (by kernel_rfl) rfl) 110 #[.pointer (some ⟨w.heap.size, 0, none⟩)] trivial (enters_of Tryz.func110 (by kernel_rfl) rfl) _ _ (by rw [hsz]; unfold bound at hb; unfold maxLen; omega) (by rw [hsz]; unfold bound at hb; omega) _ hseq
  refine ((callsIn_wide (n := 5)).1 hc).mono ?_
  rintro e w' ⟨v, ss, rfl, hp, hrow, -, hbw⟩
  have hs1 : (w.alloc (.cells #[.map (some b)] 87)).heap.size = w.heap.size + 1 := by simp
  have hlen : ss.length = l.length := by rw [hp.length_eq, strKeys_L, List.length_map]
  rw [sorted_L (own_rising (string_keyed Tryz.underlying9) hown) hp, List.map_map, hlen] at hrow
  refine ⟨v, rfl, ?_, hs1 ▸ hbw⟩
  have := hrow.mono (base' := w.heap.size) (by omega)
  refine this
theorem key_len {P : Program} {k : TypeId} (hk : P.underlying k = some .string) {v : Value} {n : ByteArray} (h : keyOf P k v = some (keyL n)) : n.size ≤ maxLen := by
  rw [show keyOf P k v = mapKey P k v by simp [keyOf, hk]] at h
  unfold mapKey at h
  rw [hk] at h
  cases v <;> simp [keyL] at h
  rename_i s
  obtain ⟨h1, h2⟩ := h
  have e : s = n := bytes_inj (by rw [h2])
  rw [← e]
  exact h1
theorem own_key {w : World} {b n : Nat} {l : List Lk} (h : w.ownsMap Tryz.prog 9 readL b n (.map (l.map encL))) {x : Lk} (hx : x ∈ l) : keyOf Tryz.prog 9 (.string x.1) = some (keyL x.1) := by
  obtain ⟨es, clock, hb, F, hn, hD⟩ := h
  have h1 : encL x ∈ (es.toList.map (WideElems.rg Tryz.prog 9 readL)).foldr DataW.insert [] := by
    rw [← DataW.map.inj hD]
    exact List.mem_map_of_mem hx
  obtain ⟨m, hm, e⟩ := List.mem_map.1 (mem_sorted.1 h1)
  obtain ⟨y, hy⟩ := F.reads m hm
  rw [WideElems.rg_of hy] at e
  have h2 := WideElems.rd_key hy
  rw [e] at h2
  exact WideMaps.keyOf_string_mk Tryz.underlying9 (key_len Tryz.underlying9 h2)
end
end Go.Proofs.YthifdofdoeaemaaGreatDoor.Wk
end
section
namespace Go.Proofs.YthifdofdoeaemaaGreatDoor.Wk
open Go.RowKit Go.Proofs.YthifdofdoeaemaaGreatDoorW.PrintWords Go.Proofs.YthifdofdoeaemaaGreatDoorW.PrintLast Go.Proofs.YthifdofdoeaemaaGreatDoorW.PrintMore
attribute [local go_sem] max2_int min2_int max_two min_two max_three min_three max_four min_four
set_option linter.unusedVariables false
set_option linter.unusedSimpArgs false
section
open Go.RowKit Go.Lib Go.Maps Go.Proofs.YthifdofdoeaemaaGreatDoorQ
attribute [local go_sem] Oper.semAt_some
set_option maxHeartbeats 8000000 in
set_option maxRecDepth 100000 in
theorem sweep_stop (B : GB) (G : GS) (id : Int) (x : GO) (w : World) (hG : GraphAt w B G) (ho : G.at id = some x) (hs : id = 1 ∨ 0 < x.leads ∨ 0 < x.held) :
    Calls Tryz.prog 50 #[.pointer (some ⟨B.g, 0, none⟩), .int .i64 id] w (Swept w B G [] G) := by
  have HG := Aside0.mk hG
  have c1 := hG.c1
  have hlk := hG.lookAt ho
  have o2 : w.cell? ⟨B.ob id, 2, none⟩ = some (.int .i64 x.leads) := (hG.obj ho).c2
  have o3 : w.cell? ⟨B.ob id, 3, none⟩ = some (.int .i64 x.held) := (hG.obj ho).c3
  clear hG ho
  have fin : Swept w B G [] G (.returned (.slice none 0 0)) w := ⟨_, rfl, World.ownsRow_nil _ _ _ _, HG.out, fun y hy => ⟨y, hy, rfl⟩, SameOn.refl _ _⟩
  have FIN := Aside0.mk fin
  clear fin
  by_cases h1 : id = 1
  · have h1b : (id == 1) = true := by simpa using h1
    clear h1 hs
    go_enter Tryz.func50, Tryz.ntmps50
    go_wp2
    go_ret
    exact FIN.out
  · have h1b : (id == 1) = false := by simpa using h1
    by_cases h2 : 0 < x.leads
    · have h2b : decide (0 < x.leads) = true := decide_eq_true h2
      clear h1 hs h2
      go_enter Tryz.func50, Tryz.ntmps50
      go_wp2
      go_ret
      exact FIN.out
    · have h2b : decide (0 < x.leads) = false := decide_eq_false h2
      have h3b : decide (0 < x.held) = true := decide_eq_true ((hs.resolve_left h1).resolve_left h2)
      clear h1 hs h2
      go_enter Tryz.func50, Tryz.ntmps50
      go_wp2
      go_ret
      exact FIN.out
end
end Go.Proofs.YthifdofdoeaemaaGreatDoor.Wk
end
section
namespace Go.Proofs.YthifdofdoeaemaaGreatDoor.Wk
open Go.RowKit Go.Proofs.YthifdofdoeaemaaGreatDoorW.PrintWords Go.Proofs.YthifdofdoeaemaaGreatDoorW.PrintLast Go.Proofs.YthifdofdoeaemaaGreatDoorW.PrintMore
attribute [local go_sem] max2_int min2_int max_two min_two max_three min_three max_four min_four
set_option linter.unusedVariables false
set_option linter.unusedSimpArgs false
section
open Go.RowKit Go.Lib Go.Maps Go.Proofs.YthifdofdoeaemaaGreatDoorQ
theorem GraphAt.drop {A : World} {B : GB} {G : GS} (h : GraphAt A B G) {id : Int} (hk : keyOf Tryz.prog 3 (.int .i64 id) = some (keyO id)) :
    ∃ W, (Builtin.delete_ #[71, 3] 0 #[.map (some B.mb), .int .i64 id]).run Tryz.prog A = .ok (.tuple #[]) W ∧
      GraphAt W B { G with objs := delO id G.objs } ∧ SameOn (fun k => k ≠ B.mb) A W := by
  obtain ⟨W, hr, hW, ht⟩ := h.objs.drop (int_keyed Tryz.underlying3) Tryz.underlying71 hk 0
  have hg := ht.grown
  rw [del_O] at hW
  have hW2 := own_tight hW
  rw [List.length_map] at hW2
  have hs : ∀ k, k ≠ B.mb → k < A.heap.size → W.heap[k]? = A.heap[k]? := fun k hk hl => hg.block k hl (fun e => hk (by injection e))
  have hmem : ∀ x ∈ delO id G.objs, x ∈ G.objs := fun x hx => (mem_delO.1 hx).1
  refine ⟨W, hr, ?_, ⟨hg.size, fun k h1 h2 => hs k h1 h2, hg.os, hg.tape, hg.output⟩⟩
  exact {
    cell := (hs _ h.g_mb (blk_lt h.cell)).trans h.cell
    objs := hW2
    each := fun x hx => (h.each x (hmem x hx)).step (hs _ (h.ob_mb (hmem x hx)) (blk_lt (h.each x (hmem x hx)).1)) (hs _ (h.lbm x (hmem x hx)) (h.each x (hmem x hx)).2.lt)
    obI := fun x hx y hy e => h.obI x (hmem x hx) y (hmem y hy) e
    lbI := fun x hx y hy e => h.lbI x (hmem x hx) y (hmem y hy) e
    lbm := fun x hx => h.lbm x (hmem x hx)
    ids := fun x hx => h.ids x (hmem x hx) }
end
end Go.Proofs.YthifdofdoeaemaaGreatDoor.Wk
end
section
namespace Go.Proofs.YthifdofdoeaemaaGreatDoor.Wk
open Go.RowKit Go.Proofs.YthifdofdoeaemaaGreatDoorW.PrintWords Go.Proofs.YthifdofdoeaemaaGreatDoorW.PrintLast Go.Proofs.YthifdofdoeaemaaGreatDoorW.PrintMore
attribute [local go_sem] max2_int min2_int max_two min_two max_three min_three max_four min_four
set_option linter.unusedVariables false
set_option linter.unusedSimpArgs false
section
open Go.RowKit Go.Lib
theorem wpList_append_row {P : Program} (w : World) {ops : Array Oper} {rest : List Oper} {o : Oper} {a : Act} {Q : Exit → Act → World → Prop}
    (hg : o.guard = none) (s x : Operand) (t : TypeId) (hop : o.op = Op.call { callee := Callee.builtin Builtin.append, args := #[s, x], argTypes := #[t, t] })
    (base base2 : Nat) (e : TypeId) (i : TypeInfo) (z : Value) (size bytes : Nat) (h1 : P.underlying t = some (.slice e)) (h2 : P.info? e = some i) (h3 : i.zero = some z) (h4 : i.size = size) (h5 : i.bytes = bytes) (h6 : z.cells.size = size) (h7 : 0 < size)
    (v u : Value) (k m : Nat) (xs news : List Value) (hs : a.eval s = v) (hx : a.eval x = u) (hown : w.ownsRow base e size v k xs) (hrow : w.ownsRow base2 e size u m news)
    (h1c : ∀ u ∈ news, u.oneCell' = true) (b1 : k + m ≤ maxLen) (b2 : (k + m) * bytes ≤ 140737488355328) (b3 : base ≤ w.heap.size)
    (hK : ∀ v' w', w'.ownsRow base e size v' (k + m) (xs ++ news) → w.grownBy w' v.ownBlock → (v'.ownBlock = v.ownBlock ∨ v'.ownBlock = some w.heap.size) → wpList P ops Q rest (a.put o.dst v') w') :
    wpList P ops Q (o :: rest) a w := by
  rcases hrow.2 with ⟨rfl, rfl⟩ | ⟨g, cap, cur, rfl, _⟩
  · have hnews : news = [] := List.eq_nil_of_length_eq_zero (by simpa using hrow.1)
    subst hnews
    refine wpList_plain hg fun K hK' => ?_
    have hrun := run_append_owned_none (P := P) w base t o.type e i size h1 h2 _ k xs hown
    unfold Oper.wp
    simp [execOp, hop, resolve, invoke, builtin, hs, hx, hrun, Result.andThen]
    exact hK' _ _ (by simpa using hK v w (by simpa using hown) (World.grownBy.refl _ _) (.inl rfl))
  · exact wpList_append_own_at w hg s x t hop base e i z size bytes h1 h2 h3 h4 h5 h6 h7 v k xs hs hown ⟨g, 0, none⟩ m cap news hx hrow.1 (hrow.cells (g := g) rfl) h1c b1 b2 b3 (fun v' w' a1 a2 _ a4 => hK v' w' a1 a2 a4)
end
end Go.Proofs.YthifdofdoeaemaaGreatDoor.Wk
end
section
namespace Go.Proofs.YthifdofdoeaemaaGreatDoor.Wk
open Go.RowKit Go.Proofs.YthifdofdoeaemaaGreatDoorW.PrintWords Go.Proofs.YthifdofdoeaemaaGreatDoorW.PrintLast Go.Proofs.YthifdofdoeaemaaGreatDoorW.PrintMore
attribute [local go_sem] max2_int min2_int max_two min_two max_three min_three max_four min_four
set_option linter.unusedVariables false
set_option linter.unusedSimpArgs false
section
open Go.RowKit Go.Lib Go.Maps Go.Proofs.YthifdofdoeaemaaGreatDoorQ
attribute [local go_sem] Oper.semAt_some
theorem own_slice {w : World} {base n : Nat} {e : TypeId} {v : Value} {xs : List Value} (h : w.ownsRow base e 1 v n xs) : ∃ A c, v = .slice A n c := by
  rcases h.2 with ⟨rfl, rfl⟩ | ⟨g, cap, cur, rfl, _⟩
  · exact ⟨_, _, rfl⟩
  · exact ⟨_, _, rfl⟩
theorem own_at {w : World} {base n c : Nat} {e : TypeId} {A : Option Addr} {xs : List Value} (h : w.ownsRow base e 1 (.slice A n c) n xs) {i : Nat} (hi : i < n) : ∃ g, A = some ⟨g, 0, none⟩ ∧ base ≤ g ∧ w.cell? ⟨g, i, none⟩ = xs[i]? := by
  rcases h.2 with ⟨_, rfl⟩ | ⟨g, cap, cur, hv, hb, _⟩
  · omega
  · have hA : A = some ⟨g, 0, none⟩ := by cases hv; rfl
    subst hA
    exact ⟨g, rfl, hb, h.cellAt i (by omega)⟩
theorem row_same {w w' : World} {base n size : Nat} {e : TypeId} {v : Value} {xs : List Value} {S : Nat → Prop} (h : w.ownsRow base e size v n xs) (hs : SameOn S w w') (hS : ∀ k, v.ownBlock = some k → S k) : w'.ownsRow base e size v n xs :=
  own_move h (fun k hk => hs.same k (hS k hk) (h.lt k hk).2)
set_option maxHeartbeats 8000000 in
set_option maxRecDepth 100000 in
theorem sweep_go (rec : GS → Int → Option (List Int × GS)) (B : GB)
    (hrec : ∀ (G : GS) (id : Int) (r : List Int) (G2 : GS) (w : World), GraphAt w B G → rec G id = some (r, G2) → Calls Tryz.prog 50 #[.pointer (some ⟨B.g, 0, none⟩), .int .i64 id] w (Swept w B G r G2))
    (G : GS) (id : Int) (x : GO) (w : World) (hG : GraphAt w B G) (ho : G.at id = some x) (hs : ¬ (id = 1 ∨ 0 < x.leads ∨ 0 < x.held)) (hb : x.links.length ≤ bound) (r : List Int) (G2 : GS) (h : cutAll rec id x.links ([id], G) = some (r, G2)) :
    Calls Tryz.prog 50 #[.pointer (some ⟨B.g, 0, none⟩), .int .i64 id] w (Swept w B G r { G2 with objs := delO id G2.objs }) := by
  have HG := Aside0.mk hG
  have c1 := hG.c1
  have hlk := hG.lookAt ho
  have o2 : w.cell? ⟨B.ob id, 2, none⟩ = some (.int .i64 x.leads) := (hG.obj ho).c2
  have o3 : w.cell? ⟨B.ob id, 3, none⟩ = some (.int .i64 x.held) := (hG.obj ho).c3
  have o1 : ∀ o, (w.alloc o).cell? ⟨B.ob id, 1, none⟩ = some (.map (some (B.lb id))) := fun o => ((hG.below (below_alloc (Below.refl _ _) o)).obj ho).c1
  have h1b : (id == 1) = false := by simpa using (fun q => hs (.inl q) : ¬ id = 1)
  have h2b : decide (0 < x.leads) = false := decide_eq_false (fun q => hs (.inr (.inl q)))
  have h3b : decide (0 < x.held) = false := decide_eq_false (fun q => hs (.inr (.inr q)))
  have HO := Aside0.mk ho
  have H := Aside0.mk h
  clear hG ho hs h
  go_enter Tryz.func50, Tryz.ntmps50
  go_upto_region 5 with (fail)
  obtain ⟨w1, hw1⟩ : ∃ w1, w1 = w.alloc (.cells #[.int .i64 id] 3 (0, 0)) := ⟨_, rfl⟩
  have p1 : w1.cell? ⟨B.ob id, 1, none⟩ = some (.map (some (B.lb id))) := by rw [hw1]; exact o1 _
  have hob1 : w1.ownsMap Tryz.prog 9 readL (B.lb id) x.links.length (.map (x.links.map encL)) := by rw [hw1]; exact ((HG.out.below (below_alloc (Below.refl _ _) _)).obj HO.out).2
  have HOB := Aside0.mk hob1
  have HW1 := Aside0.mk hw1
  rw [← hw1]
  clear hw1 hob1 o1 o2 o3 hlk c1
  go_wp2_with (first
    | (go_at_call 78; refine (keysL_calls _ _).mono ?_; rintro e_ w2 ⟨rfl, rfl⟩)
    | (go_at_call 77; refine (sortedL_calls (B.lb id) _ x.links _ HOB.out hb).mono ?_; rintro e_ w3 ⟨v3, rfl, hrow3, hb3⟩; obtain ⟨A3, k3, rfl⟩ := own_slice hrow3; have HR3 := Aside0.mk hrow3; have HB3 := Aside0.mk hb3; clear hrow3 hb3))
  have hbw : Below w.heap.size w w3 := by
    have h1 := HB3.out
    rw [HW1.out] at h1
    exact (below_alloc (below_alloc (Below.refl _ _) _) _).trans (h1.mono (by simp; omega))
  have hblk : w3.heap[w.heap.size]? = some (.cells #[.int .i64 id] 3 (0, 0)) := by
    have h1 := HB3.out
    rw [HW1.out] at h1
    exact (h1.block _ (by simp; omega)).trans (blk_alloc (World.alloc_heap_new _ _) _)
  have HBW := Aside0.mk hbw
  have HBLK := Aside0.mk hblk
  clear hbw hblk
  obtain ⟨i0, hi0, hz0, hz1, hz2⟩ := info_parts (P := Tryz.prog) (e := 3) (z := .int .i64 0) (size := 1) (bytes := 8) (by kernel_rfl)
  have HIN := Aside0.mk hi0
  have HZ := Aside0.mk (And.intro hz0 (And.intro hz1 hz2))
  clear hi0 hz0 hz1 hz2
  go_loopg [40, 6] x.links.length (fun kq v40 v6 W => ∃ (i : Nat) (acc : List Int) (Gi : GS), v40 = .int .i64 (i : Int) ∧ Aside0 (i ≤ x.links.length ∧ x.links.length - i ≤ kq) ∧ Aside0 (cutAll rec id (x.links.drop i) (acc, Gi) = some (r, G2)) ∧ Aside0 (GraphAt W B Gi) ∧
    Aside0 (∀ y ∈ Gi.objs, ∃ z ∈ G.objs, y.1 = z.1) ∧ Aside0 (W.ownsRow w.heap.size 3 1 v6 acc.length (acc.map (.int .i64))) ∧ Aside0 (SameOn (fun k => ¬ foot B G k ∧ k ≠ w.heap.size) w3 W) ∧ Aside0 (∀ k, v6.ownBlock = some k → k = w.heap.size ∨ w3.heap.size ≤ k))
  case atStart => exact ⟨0, [id], G, rfl, ⟨Nat.zero_le _, by omega⟩, H, ⟨HG.out.below HBW.out⟩, ⟨fun y hy => ⟨y, hy, rfl⟩⟩, ⟨⟨rfl, .inr ⟨w.heap.size, 1, #[.int .i64 id], rfl, Nat.le_refl _, HBLK.out, Nat.le_refl _, by decide, rfl, rfl⟩⟩⟩, ⟨SameOn.refl _ _⟩, ⟨fun k hk => .inl (by simpa [Value.ownBlock] using hk.symm)⟩⟩
  case round =>
    obtain ⟨i, acc, Gi, rfl, HI, HC, HGI, HK, HOUT, HS, HOB6⟩ := hrel
    have hsz1 : w1.heap.size = w.heap.size + 1 := by rw [HW1.out]; simp
    have hsz3 : w1.heap.size + 1 ≤ w3.heap.size := by have := HB3.out.size; simp only [World.size_alloc] at this; exact this
    have hszr : w3.heap.size ≤ wr.heap.size := HS.out.size
    by_cases hlt : i < x.links.length
    · obtain ⟨k, hk⟩ : ∃ k, x.links[i]'hlt = k := ⟨_, rfl⟩
      have hkm : k ∈ x.links := hk ▸ List.getElem_mem _
      obtain ⟨g3, hA, hg3, hc3⟩ := own_at HR3.out (i := i) hlt
      have hc3' : w3.cell? ⟨g3, i, none⟩ = some (.string k.1) := by rw [hc3]; simp [hlt, hk]
      have hg3l : g3 < w3.heap.size := World.block_lt_of_cell? w3 _ hc3'
      have hS3 : ¬ foot B G g3 ∧ g3 ≠ w.heap.size := ⟨fun hf => by have := HG.out.foot_lt hf; omega, by omega⟩
      obtain ⟨ad, had⟩ : ∃ ad : Addr, ad = ⟨g3, 0, none⟩ := ⟨_, rfl⟩
      have hcell : wr.cell? (ad.add i) = some (.string k.1) := by rw [had, Addr.add_lit, Nat.zero_add]; exact same_cell HS.out hS3 hc3'
      rw [← had] at hA
      subst hA
      have hs := HC.out
      rw [List.drop_eq_getElem_cons hlt, hk] at hs
      unfold cutAll at hs
      simp only at hs
      cases hcut : cutG rec Gi id k.1 with
      | none => rw [hcut] at hs; cases hs
      | some rj =>
        obtain ⟨r1, Gj⟩ := rj
        rw [hcut] at hs
        simp only at hs
        by_cases hbnd : acc.length + r1.length ≤ bound
        rotate_left
        · rw [if_neg hbnd] at hs; cases hs
        rw [if_pos hbnd] at hs
        obtain ⟨oi, hoi⟩ : ∃ oi, Gi.at id = some oi := by
          cases e : Gi.at id with
          | none => unfold cutG at hcut; rw [e] at hcut; cases hcut
          | some oi => exact ⟨oi, rfl⟩
        have HCUT := Aside0.mk hcut
        have HNEXT := Aside0.mk hs
        have HBND := Aside0.mk hbnd
        have HOI := Aside0.mk hoi
        have HKEY := Aside0.mk (own_key HOB.out hkm)
        have HSZ := Aside0.mk (And.intro hsz1 (And.intro hsz3 hszr))
        have p1 : (0 : Int) ≤ (i : Int) := Int.natCast_nonneg i
        have q1 : (i : Int) < (x.links.length : Int) := by omega
        have q2 : decide ((i : Int) < (x.links.length : Int)) = true := decide_eq_true q1
        have hw1 : wrap64 ((i : Int) + 1) = i + 1 := by unfold bound at hb; unfold wrap64; omega
        replace p1 := eq_true p1
        replace q1 := eq_true q1
        clear hc3 hc3' hg3l hg3 hS3 had hs hcut hoi hbnd hsz1 hsz3 hszr p1
        have p1 : (0 : Int) ≤ (i : Int) := Int.natCast_nonneg i
        go_wp2_with (first
          | (go_at_call 45; refine (cut_calls rec B hrec Gi id oi k.1 _ HGI.out HOI.out HKEY.out r1 Gj HCUT.out).mono ?_; rintro e_ w4 ⟨v4, rfl, hr4, hg4, hk4, hs4⟩; have HR4 := Aside0.mk hr4; have HG4 := Aside0.mk hg4; have HK4 := Aside0.mk hk4; have HS4 := Aside0.mk hs4; clear hr4 hg4 hk4 hs4)
          | (at_builtin; refine wpList_append_row _ rfl _ _ 32 rfl w.heap.size wr.heap.size 3 i0 (.int .i64 0) 1 8 Tryz.underlying32 HIN.out HZ.out.1 HZ.out.2.1 HZ.out.2.2 rfl (by decide) u6 v4 acc.length r1.length _ _ rfl rfl (row_same HOUT.out HS4.out (fun q hq hf => by have := HOB6.out q hq; have := HSZ.out; have := HG.out.foot_lt (foot_keys HK.out hf); omega)) HR4.out (by simp [Value.oneCell']) (by have := HBND.out; unfold bound at this; unfold maxLen; omega) (by have := HBND.out; unfold bound at this; omega) (by have := HSZ.out; have := HS4.out.size; omega) ?_; intro v5 w5 hown5 hgrow5 hat5; have HOWN5 := Aside0.mk hown5; have HGROW5 := Aside0.mk hgrow5; have HAT5 := Aside0.mk hat5; clear hown5 hgrow5 hat5))
        go_roundg (gk - 1)
        case measure => have := HI.out; omega
        case rel =>
          have hblk : ∀ q, q < w3.heap.size → q ≠ w.heap.size → some q ≠ u6.ownBlock := fun q h1 h2 e => by have := HOB6.out q e.symm; omega
          have hfl : ∀ q, foot B Gj q → q < w.heap.size := fun q hf => HG.out.foot_lt (foot_keys HK.out (foot_keys HK4.out hf))
          have hz := HSZ.out
          have hz4 := HS4.out.size
          have h34 : SameOn (fun k => ¬ foot B G k ∧ k ≠ w.heap.size) w3 w4 := HS.out.trans (HS4.out.mono (fun k hk hf => hk.1 (foot_keys HK.out hf)))
          refine ⟨i + 1, acc ++ r1, Gj, by rw [hw1]; rfl, ⟨by omega, by have := HI.out; omega⟩, HNEXT, ⟨HG4.out.step (fun q hf hl => HGROW5.out.block q hl (hblk q (by have := hfl q hf; omega) (by have := hfl q hf; omega)))⟩, ⟨fun y hy => ?_⟩, ⟨?_⟩, ⟨⟨Nat.le_trans h34.size HGROW5.out.size, fun q hq hl => ?_, HGROW5.out.os.trans h34.os, HGROW5.out.tape.trans h34.tape, HGROW5.out.output.trans h34.output⟩⟩, ⟨fun q hq => ?_⟩⟩
          · obtain ⟨z, hz, e⟩ := HK4.out y hy
            obtain ⟨z', hz', e'⟩ := HK.out z hz
            exact ⟨z', hz', e.trans e'⟩
          · rw [List.map_append, List.length_append]
            exact HOWN5.out
          · exact (HGROW5.out.block q (by omega) (hblk q hl hq.2)).trans (h34.same q hq hl)
          · rcases HAT5.out with e | e
            · exact HOB6.out q (e ▸ hq)
            · rw [e] at hq
              have : w4.heap.size = q := by simpa using hq
              exact .inr (by omega)
    · have hi : i = x.links.length := by have := HI.out; omega
      have hs := HC.out
      rw [hi, List.drop_length] at hs
      obtain ⟨rfl, rfl⟩ : acc = r ∧ Gi = G2 := by
        unfold cutAll at hs
        simpa using hs
      have q2 : decide ((i : Int) < (x.links.length : Int)) = false := decide_eq_false (by omega)
      have q1 : ((i : Int) < (x.links.length : Int)) = False := eq_false (by omega)
      obtain ⟨W2, hr2, hG2, hs2⟩ := HGI.out.drop (HG.out.key HO.out)
      have cg1 : wr.cell? ⟨B.g, 1, none⟩ = some (.map (some B.mb)) := HGI.out.c1
      have HG2 := Aside0.mk hG2
      have HS2 := Aside0.mk hs2
      clear hs hG2 hs2
      go_wp2
      go_ret
      have hbm : B.mb < w.heap.size := HG.out.foot_lt (.inr (.inl rfl))
      have hz := HBW.out.size
      refine ⟨_, rfl, row_same HOUT.out HS2.out (fun q hq e => by have := (HOUT.out.lt q hq).1; omega), HG2.out, fun y hy => HK.out y (mem_delO.1 hy).1, ⟨?_, fun q hq hl => ?_, ?_, ?_, ?_⟩⟩
      · exact Nat.le_trans hz (Nat.le_trans HS.out.size HS2.out.size)
      · exact ((HS2.out.same q (fun e => hq (.inr (.inl e))) (by have := HS.out.size; omega)).trans (HS.out.same q ⟨hq, by omega⟩ (by omega))).trans (HBW.out.block q hl)
      · exact HS2.out.os.trans (HS.out.os.trans HBW.out.os)
      · exact HS2.out.tape.trans (HS.out.tape.trans HBW.out.tape)
      · exact HS2.out.output.trans (HS.out.output.trans HBW.out.output)
theorem sweep_calls : ∀ (n : Nat) (B : GB) (G : GS) (id : Int) (r : List Int) (G2 : GS) (w : World), GraphAt w B G → sweepG n G id = some (r, G2) →
    Calls Tryz.prog 50 #[.pointer (some ⟨B.g, 0, none⟩), .int .i64 id] w (Swept w B G r G2)
  | 0, _, _, _, _, _, _, _, h => by cases h
  | n + 1, B, G, id, r, G2, w, hG, h => by
    unfold sweepG at h
    cases ho : G.at id with
    | none => rw [ho] at h; cases h
    | some x =>
      rw [ho] at h
      simp only at h
      by_cases hs : id = 1 ∨ 0 < x.leads ∨ 0 < x.held
      · rw [if_pos hs] at h
        cases h
        exact sweep_stop B G id x w hG ho hs
      · rw [if_neg hs] at h
        by_cases hb : x.links.length ≤ bound
        rotate_left
        · rw [if_neg hb] at h; cases h
        rw [if_pos hb] at h
        cases hc : cutAll (sweepG n) id x.links ([id], G) with
        | none => rw [hc] at h; cases h
        | some c =>
          rw [hc] at h
          cases h
          exact sweep_go (sweepG n) B (sweep_calls n B) G id x w hG ho hs hb c.1 c.2 hc
end
end Go.Proofs.YthifdofdoeaemaaGreatDoor.Wk
end
section
namespace Go.Proofs.YthifdofdoeaemaaGreatDoor.Wk
open Go.RowKit Go.Proofs.YthifdofdoeaemaaGreatDoorW.PrintWords Go.Proofs.YthifdofdoeaemaaGreatDoorW.PrintLast Go.Proofs.YthifdofdoeaemaaGreatDoorW.PrintMore
attribute [local go_sem] max2_int min2_int max_two min_two max_three min_three max_four min_four
set_option linter.unusedVariables false
set_option linter.unusedSimpArgs false
section
open Go.RowKit Go.Lib Go.Maps Go.Sort Go.Proofs.YthifdofdoeaemaaGreatDoorQ
attribute [local go_sem] Oper.semAt_some
theorem sortI_calls (base : Nat) (v : Value) (r : List Int) (w : World) (h : w.ownsRow base 3 1 v r.length (r.map (.int .i64))) (hb : r.length ≤ bound) :
    Calls Tryz.prog 46 #[v] w fun e w' => e = .returned (.tuple #[]) ∧ w'.ownsRow base 3 1 v (sortI r).length ((sortI r).map (.int .i64)) ∧ w.grownBy w' v.ownBlock := by
  have hl : (sortI r).length = r.length := List.length_mergeSort r
  rcases h.2 with ⟨rfl, h0⟩ | ⟨g, cap, cur, rfl, hbase, hg, h1, h2, h3, h4⟩
  · have h0' : r = [] := List.eq_nil_of_length_eq_zero h0
    subst h0'
    refine (Tryz.slices_Sort_int_none none 0 w).mono ?_
    rintro e w' ⟨rfl, rfl⟩
    have e0 : sortI [] = [] := by unfold sortI; simp
    rw [e0]
    exact ⟨rfl, World.ownsRow_nil _ _ _ _, World.grownBy.refl _ _⟩
  · refine (Tryz.slices_Sort_int g 0 cap r w (holds_of_blockI hg (by simpa using h4)) (blk_lt hg) (by unfold bound at hb; omega)).mono ?_
    rintro e w' ⟨rfl, n, os, rfl⟩
    refine ⟨rfl, ?_, grownBy_sortedI _⟩
    have := ownsRow_sortedI (n := n) (os := os) (ts := sortI r) hl hbase hg h1 h2 h3
    rw [hl]
    exact this
set_option maxHeartbeats 8000000 in
set_option maxRecDepth 100000 in
theorem unlink_calls (n : Nat) (B : GB) (G : GS) (p : ByteArray) (w : World) (hl : Lay w) (hG : GraphAt w B G) (r : List Int) (e : Int) (G2 : GS) (h : unlinkG n G p = some (r, e, G2)) :
    Calls Tryz.prog 18 #[.pointer (some ⟨B.g, 0, none⟩), .string p] w fun ev w' => ∃ v, ev = .returned (.tuple #[v, .int .i64 e]) ∧
      w'.ownsRow w.heap.size 3 1 v r.length (r.map (.int .i64)) ∧ GraphAt w' B G2 ∧ (∀ y ∈ G2.objs, ∃ z ∈ G.objs, y.1 = z.1) ∧ SameOn (fun k => ¬ foot B G k) w w' := by
  have HL := Aside0.mk hl
  have HG := Aside0.mk hG
  unfold unlinkG at h
  clear hl hG
  cases hpl : placeG G p 2 with
  | none => rw [hpl] at h; cases h
  | some q =>
    obtain ⟨pid, pn, pe⟩ := q
    rw [hpl] at h
    simp only at h
    have hsm := placeG_small hpl
    have HPL := Aside0.mk hpl
    clear hpl
    by_cases hpe : pe = 0
    · subst hpe
      rw [if_pos rfl] at h
      cases ho : G.at pid with
      | none => rw [ho] at h; cases h
      | some x =>
        rw [ho] at h
        simp only at h
        have HO := Aside0.mk ho
        have HK := Aside0.mk (key_string pn hsm)
        clear ho hsm
        have hv : placeV B pid 0 = .pointer (some ⟨B.ob pid, 0, none⟩) := if_pos rfl
        cases hln : lnk x.links pn with
        | some k =>
          rw [hln] at h
          simp only [Option.isSome_some, if_true] at h
          cases hc : cutG (sweepG n) G pid pn with
          | none => rw [hc] at h; cases h
          | some c =>
            obtain ⟨c1, c2⟩ := c
            rw [hc] at h
            simp only at h
            by_cases hb : c1.length ≤ bound
            rotate_left
            · rw [if_neg hb] at h; cases h
            rw [if_pos hb] at h
            obtain ⟨rfl, rfl, rfl⟩ : sortI c1 = r ∧ (0 : Int) = e ∧ c2 = G2 := by simpa using h
            have HC := Aside0.mk hc
            have HB := Aside0.mk hb
            clear h hc hb
            go_enter Tryz.func18, Tryz.ntmps18
            go_wp2_with (first
              | (go_at_call 39; refine (good_calls B G _ HG.out).mono ?_; rintro e_ w0 ⟨rfl, h0⟩; obtain rfl := h0.symm)
              | (go_at_call 44; refine (place_calls B G p 2 _ HL.out HG.out (by decide) pid 0 pn HPL.out).mono ?_; rintro e_ w1 ⟨rfl, hw1⟩; have HW1 := Aside0.mk hw1; have HG1 := Aside0.mk (HG.out.below hw1); have co1 := (HG1.out.obj HO.out).c1; have hlk2 := (HG1.out.obj HO.out).look pn (Tryz.zeroValue42 w1) HK.out; simp only [hln, Option.isSome_some] at hlk2; simp only [] at co1; clear hw1)
              | (go_at_call 45; refine (cut_calls (sweepG n) B (sweep_calls n B) G pid x pn _ (HG1.out.below (below_alloc (Below.refl _ _) _)) HO.out HK.out c1 c2 HC.out).mono ?_; rintro e_ w3 ⟨v3, rfl, hr3, hg3, hk3, hs3⟩; have HR3 := Aside0.mk hr3; have HG3 := Aside0.mk hg3; have HK3 := Aside0.mk hk3; have HS3 := Aside0.mk hs3; clear hr3 hg3 hk3 hs3)
              | (go_at_call 46; refine (sortI_calls _ _ c1 _ HR3.out HB.out).mono ?_; rintro e_ w4 ⟨rfl, hr4, hs4⟩; have HR4 := Aside0.mk hr4; have HS4 := Aside0.mk hs4; clear hr4 hs4))
            go_ret2
            have hb1 := HW1.out.size
            have hbel : ∀ o, Below w.heap.size w (w1.alloc o) := fun o => HW1.out.trans ((below_alloc (Below.refl _ _) o).mono hb1)
            have hfl : ∀ q, foot B c2 q → q < w.heap.size := fun q hf => HG.out.foot_lt (foot_keys HK3.out hf)
            have hbk : ∀ q, q < w.heap.size → some q ≠ v3.ownBlock := fun q hq e => by have := (HR3.out.lt q e.symm).1; simp only [World.size_alloc] at this; omega
            have h3 := HS3.out.size
            simp only [World.size_alloc] at h3
            refine ⟨v3, rfl, HR4.out.mono (by simp only [World.size_alloc]; omega), HG3.out.step (fun q hf hl => HS4.out.block q hl (hbk q (hfl q hf))), HK3.out, ⟨?_, fun q hq hl => ?_, ?_, ?_, ?_⟩⟩
            · have := HS4.out.size; omega
            · exact ((HS4.out.block q (by omega) (hbk q hl)).trans (HS3.out.same q hq (by simp only [World.size_alloc]; omega))).trans ((hbel _).block q hl)
            · exact HS4.out.os.trans (HS3.out.os.trans (hbel _).os)
            · exact HS4.out.tape.trans (HS3.out.tape.trans (hbel _).tape)
            · exact HS4.out.output.trans (HS3.out.output.trans (hbel _).output)
        | none =>
          rw [hln] at h
          obtain ⟨rfl, rfl, rfl⟩ : ([] : List Int) = r ∧ (10 : Int) = e ∧ G = G2 := by simpa using h
          clear h
          go_enter Tryz.func18, Tryz.ntmps18
          go_wp2_with (first
            | (go_at_call 39; refine (good_calls B G _ HG.out).mono ?_; rintro e_ w0 ⟨rfl, h0⟩; obtain rfl := h0.symm)
            | (go_at_call 44; refine (place_calls B G p 2 _ HL.out HG.out (by decide) pid 0 pn HPL.out).mono ?_; rintro e_ w1 ⟨rfl, hw1⟩; have HW1 := Aside0.mk hw1; have HG1 := Aside0.mk (HG.out.below hw1); have co1 := (HG1.out.obj HO.out).c1; have hlk2 := (HG1.out.obj HO.out).look pn (Tryz.zeroValue42 w1) HK.out; simp only [hln, Option.isSome_none] at hlk2; simp only [] at co1; clear hw1))
          go_ret2
          have hb : ∀ o, Below w.heap.size w (w1.alloc o) := fun o => HW1.out.trans ((below_alloc (Below.refl _ _) o).mono HW1.out.size)
          exact ⟨_, rfl, World.ownsRow_nil _ _ _ _, HG.out.below (hb _), fun y hy => ⟨y, hy, rfl⟩, SameOn.of_below (hb _)⟩
    · rw [if_neg hpe] at h
      obtain ⟨rfl, rfl, rfl⟩ : ([] : List Int) = r ∧ pe = e ∧ G = G2 := by simpa using h
      have hpb : (pe != 0) = true := by simpa using hpe
      clear h
      go_enter Tryz.func18, Tryz.ntmps18
      go_wp2_with (first
        | (go_at_call 39; refine (good_calls B G _ HG.out).mono ?_; rintro e_ w0 ⟨rfl, h0⟩; obtain rfl := h0.symm)
        | (go_at_call 44; refine (place_calls B G p 2 _ HL.out HG.out (by decide) pid pe pn HPL.out).mono ?_; rintro e_ w1 ⟨rfl, hw1⟩; have HW1 := Aside0.mk hw1; clear hw1))
      go_ret2
      exact ⟨_, rfl, World.ownsRow_nil _ _ _ _, HG.out.below HW1.out, fun y hy => ⟨y, hy, rfl⟩, SameOn.of_below HW1.out⟩
end
end Go.Proofs.YthifdofdoeaemaaGreatDoor.Wk
end
section
namespace Go.Proofs.YthifdofdoeaemaaGreatDoor.Wk
open Go.RowKit Go.Proofs.YthifdofdoeaemaaGreatDoorW.PrintWords Go.Proofs.YthifdofdoeaemaaGreatDoorW.PrintLast Go.Proofs.YthifdofdoeaemaaGreatDoorW.PrintMore
attribute [local go_sem] max2_int min2_int max_two min_two max_three min_three max_four min_four
set_option linter.unusedVariables false
set_option linter.unusedSimpArgs false
section
open Go.RowKit Go.Lib Go.Maps Go.Proofs.YthifdofdoeaemaaGreatDoorQ
def Mine (w0 w : World) (g : Nat) (F : Nat → Prop) (G : GS) : Prop := ∃ B : GB, B.g = g ∧ GraphAt w B G ∧ (∀ k, foot B G k → F k) ∧ (∀ k, F k → w0.heap.size ≤ k ∧ k < w.heap.size) ∧ Below w0.heap.size w0 w
theorem Mine.below {w0 w : World} {g : Nat} {F : Nat → Prop} {G : GS} (h : Mine w0 w g F G) : Below w0.heap.size w0 w := by obtain ⟨B, -, -, -, -, h⟩ := h; exact h
theorem Mine.lay {w0 w : World} {g : Nat} {F : Nat → Prop} {G : GS} (h : Mine w0 w g F G) (hl : Lay w0) : Lay w := lay_below hl h.below
theorem Mine.lt {w0 w : World} {g : Nat} {F : Nat → Prop} {G : GS} (h : Mine w0 w g F G) {k : Nat} (hk : F k) : w0.heap.size ≤ k ∧ k < w.heap.size := by obtain ⟨B, -, -, -, h, -⟩ := h; exact h k hk
theorem Mine.step {w0 w w' : World} {g : Nat} {F : Nat → Prop} {G : GS} (h : Mine w0 w g F G) (hb : Below w.heap.size w w') : Mine w0 w' g F G := by
  obtain ⟨B, h1, h2, h3, h4, h5⟩ := h
  exact ⟨B, h1, h2.below hb, h3, fun k hk => ⟨(h4 k hk).1, Nat.lt_of_lt_of_le (h4 k hk).2 hb.size⟩, h5.trans (hb.mono h5.size)⟩
theorem Mine.same {w0 w w' : World} {g : Nat} {F S : Nat → Prop} {G : GS} (h : Mine w0 w g F G) (hs : SameOn S w w') (hF : ∀ k, F k → S k) (h0 : ∀ k, k < w0.heap.size → S k) : Mine w0 w' g F G := by
  obtain ⟨B, h1, h2, h3, h4, h5⟩ := h
  exact ⟨B, h1, h2.same hs (fun k hk => hF k (h3 k hk)), h3, fun k hk => ⟨(h4 k hk).1, Nat.lt_of_lt_of_le (h4 k hk).2 hs.size⟩, h5.trans (hs.below h0 h5.size)⟩
theorem mine_turn {w0 w w' : World} {B : GB} {F : Nat → Prop} {G G2 : GS} (h : GraphAt w B G) (h3 : ∀ k, foot B G k → F k) (h4 : ∀ k, F k → w0.heap.size ≤ k ∧ k < w.heap.size) (h5 : Below w0.heap.size w0 w) (hG : GraphAt w' B G2) (hs : SameOn (fun k => ¬ foot B G k) w w') (hk : ∀ y ∈ G2.objs, ∃ z ∈ G.objs, y.1 = z.1) :
    Mine w0 w' B.g F G2 ∧ SameOn (fun k => ¬ F k) w w' := by
  have hs2 : SameOn (fun k => ¬ F k) w w' := hs.mono (fun k hk hf => hk (h3 k hf))
  refine ⟨⟨B, rfl, hG, fun k hf => h3 k (foot_keys hk hf), fun k hf => ⟨(h4 k hf).1, Nat.lt_of_lt_of_le (h4 k hf).2 hs.size⟩, ?_⟩, hs2⟩
  exact h5.trans (hs2.below (fun k hk hf => by have := (h4 k hf).1; omega) h5.size)
theorem soft_keys {G G2 : GS} {p t : ByteArray} {e : Int} (h : softG G p t = some (e, G2)) : ∀ y ∈ G2.objs, ∃ z ∈ G.objs, y.1 = z.1 := by
  unfold softG at h
  simp only at h
  split at h
  · split at h
    · cases h
    · split at h
      · cases hp : putG G _ _ with
        | none => rw [hp] at h; cases h
        | some G3 => rw [hp] at h; cases h; exact fun y hy => putG_keys hp hy
      · cases h; exact fun y hy => ⟨y, hy, rfl⟩
  · cases h; exact fun y hy => ⟨y, hy, rfl⟩
theorem link_keys {G G2 : GS} {p t : ByteArray} {e : Int} (h : linkG G p t = some (e, G2)) : ∀ y ∈ G2.objs, ∃ z ∈ G.objs, y.1 = z.1 := by
  unfold linkG at h
  split at h
  · cases h
  · split at h
    · split at h
      · cases h
      · split at h
        · cases h; exact fun y hy => ⟨y, hy, rfl⟩
        · split at h
          · cases h
          · split at h
            · cases hp : putG G _ _ with
              | none => rw [hp] at h; cases h
              | some G3 => rw [hp] at h; cases h; exact fun y hy => putG_keys hp hy
            · cases h; exact fun y hy => ⟨y, hy, rfl⟩
    · cases h; exact fun y hy => ⟨y, hy, rfl⟩
theorem new_mine (w0 w : World) (hb : Below w0.heap.size w0 w) : Calls Tryz.prog 13 #[] w fun ev w' => ∃ g F, ev = .returned (.pointer (some ⟨g, 0, none⟩)) ∧ Mine w0 w' g F newG ∧ (∀ k, F k → w.heap.size ≤ k) ∧ Below w.heap.size w w' := by
  refine (new_calls w).mono ?_
  rintro ev w' ⟨B, rfl, h1, h2, h3⟩
  have hz := hb.size
  exact ⟨B.g, foot B newG, rfl, ⟨B, rfl, h1, fun k hk => hk, fun k hk => ⟨Nat.le_trans hz (h3 k hk), h1.foot_lt hk⟩, hb.trans (h2.mono hz)⟩, h3, h2⟩
theorem find_mine {w0 w : World} {g : Nat} {F : Nat → Prop} {G : GS} (h : Mine w0 w g F G) (hl : Lay w0) (p : ByteArray) {id e : Int} (hf : findG G p = some (id, e)) :
    Calls Tryz.prog 17 #[.pointer (some ⟨g, 0, none⟩), .string p] w fun ev w' => ev = .returned (.tuple #[.int .i64 id, .int .i64 e]) ∧ Below w.heap.size w w' := by
  have hlw := h.lay hl
  obtain ⟨B, rfl, h2, -⟩ := h
  exact find_calls B G p w hlw h2 id e hf
theorem soft_mine {w0 w : World} {g : Nat} {F : Nat → Prop} {G : GS} (h : Mine w0 w g F G) (hl : Lay w0) (p t : ByteArray) {e : Int} {G2 : GS} (hf : softG G p t = some (e, G2)) :
    Calls Tryz.prog 15 #[.pointer (some ⟨g, 0, none⟩), .string p, .string t] w fun ev w' => ev = .returned (.int .i64 e) ∧ Mine w0 w' g F G2 ∧ SameOn (fun k => ¬ F k) w w' := by
  have hlw := h.lay hl
  obtain ⟨B, rfl, h2, h3, h4, h5⟩ := h
  refine (soft_calls B G p t w hlw h2 e G2 hf).mono ?_
  rintro ev w' ⟨rfl, hg, hs⟩
  exact ⟨rfl, mine_turn h2 h3 h4 h5 hg hs (soft_keys hf)⟩
theorem link_mine {w0 w : World} {g : Nat} {F : Nat → Prop} {G : GS} (h : Mine w0 w g F G) (hl : Lay w0) (p t : ByteArray) {e : Int} {G2 : GS} (hf : linkG G p t = some (e, G2)) :
    Calls Tryz.prog 22 #[.pointer (some ⟨g, 0, none⟩), .string p, .string t] w fun ev w' => ev = .returned (.int .i64 e) ∧ Mine w0 w' g F G2 ∧ SameOn (fun k => ¬ F k) w w' := by
  have hlw := h.lay hl
  obtain ⟨B, rfl, h2, h3, h4, h5⟩ := h
  refine (link_calls B G p t w hlw h2 e G2 hf).mono ?_
  rintro ev w' ⟨rfl, hg, hs⟩
  exact ⟨rfl, mine_turn h2 h3 h4 h5 hg hs (link_keys hf)⟩
theorem unlink_mine {w0 w : World} {g : Nat} {F : Nat → Prop} {G : GS} (h : Mine w0 w g F G) (hl : Lay w0) (n : Nat) (p : ByteArray) {r : List Int} {e : Int} {G2 : GS} (hf : unlinkG n G p = some (r, e, G2)) :
    Calls Tryz.prog 18 #[.pointer (some ⟨g, 0, none⟩), .string p] w fun ev w' => ∃ v, ev = .returned (.tuple #[v, .int .i64 e]) ∧ w'.ownsRow w.heap.size 3 1 v r.length (r.map (.int .i64)) ∧ Mine w0 w' g F G2 ∧ SameOn (fun k => ¬ F k) w w' := by
  have hlw := h.lay hl
  obtain ⟨B, rfl, h2, h3, h4, h5⟩ := h
  refine (unlink_calls n B G p w hlw h2 r e G2 hf).mono ?_
  rintro ev w' ⟨v, rfl, hr, hg, hk, hs⟩
  exact ⟨v, rfl, hr, mine_turn h2 h3 h4 h5 hg hs hk⟩
theorem add_mine {w0 w : World} {g : Nat} {F : Nat → Prop} {G : GS} (h : Mine w0 w g F G) (hl : Lay w0) (p : ByteArray) (kind : Int) {id e : Int} {G2 : GS} (hf : addG G p kind = some (id, e, G2)) :
    Calls Tryz.prog 16 #[.pointer (some ⟨g, 0, none⟩), .string p, .int .i64 kind] w fun ev w' => ev = .returned (.tuple #[.int .i64 id, .int .i64 e]) ∧
      ∃ F', Mine w0 w' g F' G2 ∧ (∀ k, F k → F' k) ∧ (∀ k, F' k → F k ∨ w.heap.size ≤ k) ∧ SameOn (fun k => ¬ F k) w w' := by
  have hlw := h.lay hl
  obtain ⟨B, rfl, h2, h3, h4, h5⟩ := h
  refine (add_calls B G p kind w hlw h2 id e G2 hf).mono ?_
  rintro ev w' ⟨rfl, B2, hB2, hg, hk, hs⟩
  have hs2 : SameOn (fun k => ¬ F k) w w' := hs.mono (fun k hk hf => hk (h3 k hf))
  have hz := h5.size
  refine ⟨rfl, fun k => F k ∨ (w.heap.size ≤ k ∧ k < w'.heap.size), ⟨B2, hB2, hg, fun k hf => ?_, fun k hf => ?_, ?_⟩, fun k hf => .inl hf, fun k hf => hf.imp_right (fun a => a.1), hs2⟩
  · rcases hk k hf with h | h
    · exact .inl (h3 k h)
    · exact .inr ⟨h, hg.foot_lt hf⟩
  · rcases hf with hf | hf
    · exact ⟨(h4 k hf).1, Nat.lt_of_lt_of_le (h4 k hf).2 hs.size⟩
    · exact ⟨by omega, hf.2⟩
  · exact h5.trans (hs2.below (fun k hk hf => by have := (h4 k hf).1; omega) h5.size)
end
end Go.Proofs.YthifdofdoeaemaaGreatDoor.Wk
end
section
namespace Go.Proofs.YthifdofdoeaemaaGreatDoor.Wk
open Go.RowKit Go.Proofs.YthifdofdoeaemaaGreatDoorW.PrintWords Go.Proofs.YthifdofdoeaemaaGreatDoorW.PrintLast Go.Proofs.YthifdofdoeaemaaGreatDoorW.PrintMore
attribute [local go_sem] max2_int min2_int max_two min_two max_three min_three max_four min_four
set_option linter.unusedVariables false
set_option linter.unusedSimpArgs false
section
open Go.RowKit Go.Lib
def slabvaultlaw18_ints.l0 : Nat → List Int → List Int → Int → Option (Bool)
  | 0, _, _, _ => none
  | k + 1, x0, x1, x5 => if x5 < (x0.length : Int) then (if 0 ≤ x5 then (if x5 < (x1.length : Int) then (if (rd x0 x5) = (rd x1 x5) then (slabvaultlaw18_ints.l0 k x0 x1 (wrap64 (x5 + 1))) else (some false)) else (none)) else (none)) else (some true)
def slabvaultlaw18_ints.f (k : Nat) (l0 : List Int) (l1 : List Int) : Option (Bool) := if (l0.length : Int) = (l1.length : Int) then (slabvaultlaw18_ints.l0 k l0 l1 0) else (some false)
theorem slabvaultlaw18_ints.mono_l : ∀ k, (∀ y0 y1 y2, LeO (slabvaultlaw18_ints.l0 k y0 y1 y2) (slabvaultlaw18_ints.l0 (k + 1) y0 y1 y2))
  | 0 => fun _ _ _ r h => by simp [slabvaultlaw18_ints.l0] at h
  | k + 1 => by
    have ih0 := slabvaultlaw18_ints.mono_l k
    · intro y0 y1 y2
      unfold slabvaultlaw18_ints.l0
      repeat' first
      | (with_reducible exact ih0 _ _ _)
      | (with_reducible exact LeO.refl _)
      | (with_reducible exact LeO.none _)
      | (with_reducible refine LeO.ite ?_ ?_)
      | (with_reducible refine LeO.bind ?_ (fun _ => ?_))
      | exact ih0 _ _ _
      | exact LeO.none _
      | refine LeO.ite ?_ ?_
      | refine LeO.bind ?_ (fun _ => ?_)
theorem slabvaultlaw18_ints.mono : ∀ a0 a1 k, LeO (slabvaultlaw18_ints.f k a0 a1) (slabvaultlaw18_ints.f (k + 1) a0 a1) := by
  intro a0 a1 k
  have ih0 := slabvaultlaw18_ints.mono_l k
  unfold slabvaultlaw18_ints.f
  repeat' first
      | (with_reducible exact ih0 _ _ _)
      | (with_reducible exact LeO.refl _)
      | (with_reducible exact LeO.none _)
      | (with_reducible refine LeO.ite ?_ ?_)
      | (with_reducible refine LeO.bind ?_ (fun _ => ?_))
      | exact ih0 _ _ _
      | exact LeO.none _
      | refine LeO.ite ?_ ?_
      | refine LeO.bind ?_ (fun _ => ?_)
set_option maxHeartbeats 8000000 in
set_option maxRecDepth 100000 in
theorem slabvaultlaw18_ints.calls (k : Nat) (A0 : Option Addr) (c0 : Nat) (l0 : List Int) (A1 : Option Addr) (c1 : Nat) (l1 : List Int) (r : Bool) (w : World) (hr0 : Kd.C (Kd.int .i64) w A0 l0.length l0) (hc0 : l0.length ≤ c0) (hr1 : Kd.C (Kd.int .i64) w A1 l1.length l1) (hc1 : l1.length ≤ c1) (h : slabvaultlaw18_ints.f k l0 l1 = some r) :
    Calls Tryz.prog 33 #[.slice A0 l0.length c0, .slice A1 l1.length c1] w fun e w' => e = .returned (.bool r) ∧ Drawn0 w w' := by
  have HR0 := Aside0.mk hr0
  have HC0 := Aside0.mk hc0
  clear hr0 hc0
  have HR1 := Aside0.mk hr1
  have HC1 := Aside0.mk hc1
  clear hr1 hc1
  have H : (if (l0.length : Int) = (l1.length : Int) then (slabvaultlaw18_ints.l0 k l0 l1 0) else (some false)) = some r := h
  clear h
  by_cases c3 : (l0.length : Int) = (l1.length : Int)
  · rw [if_pos c3] at H
    have c3b0 : ((l0.length : Int) == (l1.length : Int)) = true := beq_iff_eq.mpr c3
    have c3b1 : ((l0.length : Int) != (l1.length : Int)) = false := bne_eq_false_iff_eq.mpr c3
    have c3b2 : (l0.length == l1.length) = true := by first | simpa using c3 | (simp at c3 ⊢; omega)
    clear c3
    have H' := Aside0.mk H
    clear H
    go_enter Tryz.func33, Tryz.ntmps33
    go_wp2
    repeat (go_quiet (fail); try go_wp2)
    go_loopg [5] k (fun kq v5 w' => ∃ (x5_1 : Int), v5 = .int .i64 x5_1 ∧ Aside0 (slabvaultlaw18_ints.l0 kq l0 l1 x5_1 = some r) ∧ Aside0 (kq ≤ k) ∧ Drawn0 w w')
    case atStart => exact ⟨(0), (by first | rfl | (simp; done) | (simp [*]; done)), H', ⟨Nat.le_refl _⟩, by repeat (first | exact Drawn0.refl _ | apply Drawn0.step)⟩
    case round =>
      clear H'
      try clear c1
      try clear p2
      try clear c3
      try clear c3b0
      try clear c3b1
      try clear c3b2
      obtain ⟨x5_1, rfl, HA, HK1, ⟨m1, rfl⟩⟩ := hrel
      cases gk with
      | zero => exact absurd HA.out (by simp [slabvaultlaw18_ints.l0])
      | succ k1 =>
        have H := HA.out
        clear HA
        simp only [slabvaultlaw18_ints.l0] at H
        by_cases c4 : x5_1 < (l0.length : Int)
        · rw [if_pos c4] at H
          have c4b0 : decide (x5_1 < (l0.length : Int)) = true := decide_eq_true c4
          clear c4
          by_cases c5 : 0 ≤ x5_1
          · rw [if_pos c5] at H
            have c5b0 : decide (0 ≤ x5_1) = true := decide_eq_true c5
            clear c5
            by_cases c6 : x5_1 < (l1.length : Int)
            · rw [if_pos c6] at H
              have c6b0 : decide (x5_1 < (l1.length : Int)) = true := decide_eq_true c6
              clear c6
              by_cases c7 : (rd l0 x5_1) = (rd l1 x5_1)
              · rw [if_pos c7] at H
                have c7b0 : ((rd l0 x5_1) == (rd l1 x5_1)) = true := beq_iff_eq.mpr c7
                have c7b1 : ((rd l0 x5_1) != (rd l1 x5_1)) = false := bne_eq_false_iff_eq.mpr c7
                clear c7
                have H' := Aside0.mk H
                clear H
                have p341 : 0 ≤ (x5_1 : Int) := of_decide_eq_true (by first | (with_reducible assumption) | assumption)
                have q341 : x5_1 < (l0.length : Int) := of_decide_eq_true (by first | (with_reducible assumption) | assumption)
                obtain ⟨ad341, e341, hx341_0⟩ := Kd.at_int HR0.out x5_1 p341 q341
                cases e341
                replace p341 := eq_true p341
                replace q341 := eq_true q341
                have p342 : 0 ≤ (x5_1 : Int) := of_decide_eq_true (by first | (with_reducible assumption) | assumption)
                have q342 : x5_1 < (l1.length : Int) := of_decide_eq_true (by first | (with_reducible assumption) | assumption)
                obtain ⟨ad342, e342, hx342_0⟩ := Kd.at_int HR1.out x5_1 p342 q342
                cases e342
                replace p342 := eq_true p342
                replace q342 := eq_true q342
                go_wp2
                repeat (go_quiet (fail); try go_wp2)
                go_roundg k1
                case measure => have := HK1.out; omega
                case rel => exact ⟨(wrap64 (x5_1 + 1)), (by first | rfl | (simp; done) | (simp [*]; done)), H', ⟨by have := HK1.out; omega⟩, by repeat (first | exact Drawn0.refl _ | apply Drawn0.step)⟩
              · rw [if_neg c7] at H
                have c7b0 : ((rd l0 x5_1) == (rd l1 x5_1)) = false := beq_eq_false_iff_ne.mpr c7
                have c7b1 : ((rd l0 x5_1) != (rd l1 x5_1)) = true := bne_iff_ne.mpr c7
                obtain rfl := Option.some.inj H
                have p341 : 0 ≤ (x5_1 : Int) := of_decide_eq_true (by first | (with_reducible assumption) | assumption)
                have q341 : x5_1 < (l0.length : Int) := of_decide_eq_true (by first | (with_reducible assumption) | assumption)
                obtain ⟨ad341, e341, hx341_0⟩ := Kd.at_int HR0.out x5_1 p341 q341
                cases e341
                replace p341 := eq_true p341
                replace q341 := eq_true q341
                have p342 : 0 ≤ (x5_1 : Int) := of_decide_eq_true (by first | (with_reducible assumption) | assumption)
                have q342 : x5_1 < (l1.length : Int) := of_decide_eq_true (by first | (with_reducible assumption) | assumption)
                obtain ⟨ad342, e342, hx342_0⟩ := Kd.at_int HR1.out x5_1 p342 q342
                cases e342
                replace p342 := eq_true p342
                replace q342 := eq_true q342
                go_wp2
                repeat (go_quiet (fail); try go_wp2)
                go_ret
                exact ⟨by first | rfl | (simp; done) | (simp [*]; done), by repeat (first | exact Drawn0.refl _ | apply Drawn0.step)⟩
            · rw [if_neg c6] at H
              exact absurd H (by simp)
          · rw [if_neg c5] at H
            exact absurd H (by simp)
        · rw [if_neg c4] at H
          have c4b0 : decide (x5_1 < (l0.length : Int)) = false := decide_eq_false c4
          clear c4
          obtain rfl := Option.some.inj H
          go_wp2
          repeat (go_quiet (fail); try go_wp2)
          go_ret
          exact ⟨by first | rfl | (simp; done) | (simp [*]; done), by repeat (first | exact Drawn0.refl _ | apply Drawn0.step)⟩
  · rw [if_neg c3] at H
    have c3b0 : ((l0.length : Int) == (l1.length : Int)) = false := beq_eq_false_iff_ne.mpr c3
    have c3b1 : ((l0.length : Int) != (l1.length : Int)) = true := bne_iff_ne.mpr c3
    have c3b2 : (l0.length == l1.length) = false := by first | simpa using c3 | (simp at c3 ⊢; omega)
    obtain rfl := Option.some.inj H
    go_enter Tryz.func33, Tryz.ntmps33
    go_wp2
    repeat (go_quiet (fail); try go_wp2)
    go_ret
    exact ⟨by first | rfl | (simp; done) | (simp [*]; done), by repeat (first | exact Drawn0.refl _ | apply Drawn0.step)⟩
theorem ints_l0 (l0 l1 : List Int) (hl : l0.length = l1.length) (hb : l0.length < 4611686018427387904) : ∀ (n i : Nat), l0.length - i < n → i ≤ l0.length → slabvaultlaw18_ints.l0 n l0 l1 (i : Int) = some (decide (l0.drop i = l1.drop i))
  | 0, i, h, _ => absurd h (by omega)
  | n + 1, i, h, hi => by
    unfold slabvaultlaw18_ints.l0
    by_cases hlt : i < l0.length
    · rw [if_pos (by omega), if_pos (by omega), if_pos (by omega)]
      have e0 : rd l0 (i : Int) = l0[i] := by simp [rd, hlt]
      have hlt1 : i < l1.length := by omega
      have e1 : rd l1 (i : Int) = l1[i] := by simp [rd, hlt1]
      rw [e0, e1, show l0.drop i = l0[i] :: l0.drop (i + 1) from List.drop_eq_getElem_cons hlt, show l1.drop i = l1[i] :: l1.drop (i + 1) from List.drop_eq_getElem_cons hlt1]
      have hw : wrap64 ((i : Int) + 1) = ((i + 1 : Nat) : Int) := by unfold wrap64; omega
      by_cases e : l0[i] = l1[i]
      · rw [if_pos e, hw, ints_l0 l0 l1 hl hb n (i + 1) (by omega) (by omega)]
        congr 1
        rw [e, decide_eq_decide, List.cons.injEq]
        exact ⟨fun h => ⟨rfl, h⟩, fun h => h.2⟩
      · rw [if_neg e]
        congr 1
        symm
        exact decide_eq_false (fun h => e (List.cons.inj h).1)
    · rw [if_neg (by omega), List.drop_of_length_le (by omega), List.drop_of_length_le (by omega)]
      rfl
theorem ints_f (l0 l1 : List Int) (hb : l0.length < 4611686018427387904) : slabvaultlaw18_ints.f (l0.length + 1) l0 l1 = some (decide (l0 = l1)) := by
  unfold slabvaultlaw18_ints.f
  by_cases e : l0.length = l1.length
  · rw [if_pos (by omega), show (0 : Int) = ((0 : Nat) : Int) from rfl, ints_l0 l0 l1 e hb _ 0 (by omega) (by omega)]
    rfl
  · rw [if_neg (by omega)]
    simp [show ¬ l0 = l1 from fun h => e (by rw [h])]
theorem own_C {w : World} {b : Nat} {v : Value} {l : List Int} (h : w.ownsRow b 3 1 v l.length (l.map (.int .i64))) (hb : l.length ≤ 9223372036854775807) : ∃ A c, v = .slice A l.length c ∧ l.length ≤ c ∧ (Kd.int .i64).C w A l.length l := by
  rcases h.2 with ⟨rfl, h0⟩ | ⟨g, cap, cur, rfl, hbase, hg, h1, h2, h3, h4⟩
  · exact ⟨none, 0, by rw [h0], by omega, ⟨rfl, hb, fun h => absurd h (by omega)⟩⟩
  · refine ⟨_, _, rfl, h1, ⟨rfl, hb, fun _ => ⟨_, rfl, fun j p hj => ⟨[.int .i64 p], rfl, rfl, fun i u hu => ?_⟩⟩⟩⟩
    have hjl : j < l.length := (List.getElem?_eq_some_iff.1 hj).1
    have hi : i = 0 := by
      cases i with
      | zero => rfl
      | succ i => simp at hu
    subst hi
    have hu' : Value.int .i64 p = u := by simpa using hu
    have := h.cellAt j (by omega)
    rw [List.getElem?_map, hj] at this
    rw [← hu']
    have e : (⟨g, 0, none⟩ : Addr).add (j * (Kd.int .i64).sz + 0) = ⟨g, j, none⟩ := by
      rw [show j * (Kd.int .i64).sz + 0 = j from Nat.mul_one j, Addr.add_lit, Nat.zero_add]
    rw [e]
    simpa using this
theorem ints_calls (b1 b2 : Nat) (v u : Value) (l0 l1 : List Int) (w : World) (h0 : w.ownsRow b1 3 1 v l0.length (l0.map (.int .i64))) (h1 : w.ownsRow b2 3 1 u l1.length (l1.map (.int .i64))) (hb : l0.length < 4611686018427387904) :
    Calls Tryz.prog 33 #[v, u] w fun e w' => e = .returned (.bool (decide (l0 = l1))) ∧ Below w.heap.size w w' := by
  obtain ⟨A0, c0, rfl, hc0, hk0⟩ := own_C h0 (by omega)
  have hb1 : l1.length < 9223372036854775808 := by
    rcases h1.2 with ⟨-, h⟩ | ⟨g, cap, cur, -, -, -, h, h', -⟩
    · omega
    · unfold maxLen at h'; omega
  obtain ⟨A1, c1, rfl, hc1, hk1⟩ := own_C h1 (by omega)
  refine (slabvaultlaw18_ints.calls _ A0 c0 l0 A1 c1 l1 _ w hk0 hc0 hk1 hc1 (ints_f l0 l1 hb)).mono ?_
  rintro e w' ⟨rfl, hd⟩
  exact ⟨rfl, hd.below⟩
end
end Go.Proofs.YthifdofdoeaemaaGreatDoor.Wk
end
section
namespace Go.Proofs.YthifdofdoeaemaaGreatDoor.Wk
open Go.RowKit Go.Proofs.YthifdofdoeaemaaGreatDoorW.PrintWords Go.Proofs.YthifdofdoeaemaaGreatDoorW.PrintLast Go.Proofs.YthifdofdoeaemaaGreatDoorW.PrintMore
attribute [local go_sem] max2_int min2_int max_two min_two max_three min_three max_four min_four
set_option linter.unusedVariables false
set_option linter.unusedSimpArgs false
section
open Go.RowKit Go.Lib Go.Maps Go.Proofs.YthifdofdoeaemaaGreatDoorQ
attribute [local go_sem] Oper.semAt_some
def live1 : GS := ⟨3, 1, [(1, ⟨1, [(⟨#[103]⟩, 2, ⟨#[]⟩)], 0, 0⟩), (2, ⟨1, [], 1, 0⟩)]⟩
def live2 : GS := ⟨4, 2, [(1, ⟨1, [(⟨#[103]⟩, 2, ⟨#[]⟩)], 0, 0⟩), (2, ⟨1, [(⟨#[100]⟩, 3, ⟨#[]⟩)], 1, 0⟩), (3, ⟨2, [], 1, 0⟩)]⟩
def live3 : GS := ⟨4, 3, [(1, ⟨1, [(⟨#[101]⟩, 3, ⟨#[]⟩), (⟨#[103]⟩, 2, ⟨#[]⟩)], 0, 0⟩), (2, ⟨1, [(⟨#[100]⟩, 3, ⟨#[]⟩)], 1, 0⟩), (3, ⟨2, [], 2, 0⟩)]⟩
def live4 : GS := ⟨4, 1, [(1, ⟨1, [(⟨#[101]⟩, 3, ⟨#[]⟩)], 0, 0⟩), (3, ⟨2, [], 1, 0⟩)]⟩
theorem lives1 : addG newG ⟨#[47, 103]⟩ 1 = some (2, 0, live1) := by kernel_rfl
theorem lives2 : addG live1 ⟨#[47, 103, 47, 100]⟩ 2 = some (3, 0, live2) := by kernel_rfl
theorem lives3 : linkG live2 ⟨#[47, 101]⟩ ⟨#[47, 103, 47, 100]⟩ = some (0, live3) := by kernel_rfl
theorem lives4 : unlinkG 3 live3 ⟨#[47, 103]⟩ = some ([2], 0, live4) := by kernel_rfl
theorem lives5 : findG live4 ⟨#[47, 101]⟩ = some (3, 0) := by kernel_rfl
set_option maxHeartbeats 8000000 in
set_option maxRecDepth 100000 in
theorem lives_calls (w : World) (hl : Lay w) : Calls Tryz.prog 14 #[] w fun e w' => e = .returned (.bool true) ∧ Below w.heap.size w w' := by
  have HL := Aside0.mk hl
  clear hl
  go_enter Tryz.func14, Tryz.ntmps14
  go_upto_region 4 with (go_at_call 13; refine (new_mine w _ (Below.refl _ _)).mono ?_; rintro e_ w1 ⟨g, F1, rfl, hm, hf, -⟩; have HM1 := Aside0.mk hm; clear hm hf)
  go_upto_region 5 with (go_at_call 16; refine (add_mine HM1.out HL.out ⟨#[47, 103]⟩ 1 lives1).mono ?_; rintro e_ w2 ⟨rfl, F2, hm, -, -, -⟩; have HM2 := Aside0.mk hm; clear hm)
  go_upto_region 6 with (go_at_call 16; refine (add_mine HM2.out HL.out ⟨#[47, 103, 47, 100]⟩ 2 lives2).mono ?_; rintro e_ w3 ⟨rfl, F3, hm, -, -, -⟩; have HM3 := Aside0.mk hm; clear hm)
  go_upto_region 7 with (go_at_call 22; refine (link_mine HM3.out HL.out ⟨#[47, 101]⟩ ⟨#[47, 103, 47, 100]⟩ lives3).mono ?_; rintro e_ w4 ⟨rfl, hm, -⟩; have HM4 := Aside0.mk hm; clear hm)
  go_upto_region 8 with (go_at_call 18; refine (unlink_mine HM4.out HL.out 3 ⟨#[47, 103]⟩ lives4).mono ?_; rintro e_ w5 ⟨v5, rfl, hr, hm, -⟩; have HM5 := Aside0.mk hm; have HR5 := Aside0.mk hr; clear hm hr)
  go_upto_region 9 with (go_at_call 17; refine (find_mine HM5.out HL.out ⟨#[47, 101]⟩ lives5).mono ?_; rintro e_ w6 ⟨rfl, hb⟩; have HB6 := Aside0.mk hb; clear hb)
  have HRV := Aside0.mk (fun o => row_same HR5.out (SameOn.of_below (S := fun _ => True) (HB6.out.trans (below_alloc (Below.refl _ _) o |>.mono HB6.out.size))) (fun _ _ => trivial))
  have HRU : Aside0 ((w6.alloc (.cells #[.int .i64 2] 3 (0, 0))).ownsRow w6.heap.size 3 1 (.slice (some ⟨w6.heap.size, 0, none⟩) 1 1) ([2] : List Int).length (([2] : List Int).map (.int .i64))) := ⟨⟨rfl, .inr ⟨_, 1, _, rfl, Nat.le_refl _, World.alloc_heap_new _ _, Nat.le_refl _, by decide, rfl, rfl⟩⟩⟩
  go_wp2_with (go_at_call 33; refine (ints_calls w4.heap.size w6.heap.size v5 (.slice (some ⟨w6.heap.size, 0, none⟩) 1 1) [2] [2] _ (HRV.out _) HRU.out (by decide)).mono ?_; rintro e_ w7 ⟨rfl, hb7⟩; have HB7 := Aside0.mk hb7; clear hb7)
  go_ret
  refine ⟨rfl, ?_⟩
  have h1 := HM5.out.below
  have h2 := h1.trans (HB6.out.mono h1.size)
  have h3 : Below w.heap.size w (w6.alloc (.cells #[.int .i64 2] 3 (0, 0))) := h2.trans (below_alloc (Below.refl _ _) _ |>.mono h2.size)
  exact h3.trans (HB7.out.mono h3.size)
end
end Go.Proofs.YthifdofdoeaemaaGreatDoor.Wk
end
section
namespace Go.Proofs.YthifdofdoeaemaaGreatDoor.Wk
open Go.RowKit Go.Proofs.YthifdofdoeaemaaGreatDoorW.PrintWords Go.Proofs.YthifdofdoeaemaaGreatDoorW.PrintLast Go.Proofs.YthifdofdoeaemaaGreatDoorW.PrintMore
attribute [local go_sem] max2_int min2_int max_two min_two max_three min_three max_four min_four
set_option linter.unusedVariables false
set_option linter.unusedSimpArgs false
section
open Go.RowKit Go.Lib Go.Maps
def Asc (l : List (Int × GO)) : Prop := l.Pairwise (fun x y => x.1 < y.1)
def sumO (f : GO → Nat) (l : List (Int × GO)) : Nat := (l.map (fun x => f x.2)).sum
theorem sumO_cons (f : GO → Nat) (a : Int × GO) (l : List (Int × GO)) : sumO f (a :: l) = f a.2 + sumO f l := rfl
theorem sumO_one : ∀ l : List (Int × GO), sumO (fun _ => 1) l = l.length
  | [] => rfl
  | a :: t => by rw [sumO_cons, sumO_one t, List.length_cons]; omega
theorem find_asc : ∀ {l : List (Int × GO)}, Asc l → ∀ {x}, x ∈ l → l.find? (fun y => decide (y.1 = x.1)) = some x
  | a :: t, h, x, hx => by
    have h1 := List.pairwise_cons.1 h
    rw [List.find?_cons]
    rcases List.mem_cons.1 hx with rfl | hx
    · simp
    · have := h1.1 x hx
      rw [decide_eq_false (show ¬ a.1 = x.1 by omega)]
      exact find_asc h1.2 hx
theorem at_of_mem {G : GS} (h : Asc G.objs) {id : Int} {o : GO} (hx : (id, o) ∈ G.objs) : G.at id = some o := by
  unfold GS.at
  rw [show (fun x : Int × GO => decide (x.1 = id)) = (fun y => decide (y.1 = (id, o).1)) from rfl, find_asc h hx]
  rfl
theorem asc_uniq {l : List (Int × GO)} (h : Asc l) {id : Int} {o p : GO} (h1 : (id, o) ∈ l) (h2 : (id, p) ∈ l) : o = p := by
  have a := find_asc h h1
  have b := find_asc h h2
  simp only at a b
  rw [a] at b
  cases b
  rfl
theorem setO_not : ∀ {l : List (Int × GO)} {id : Int} (f : GO → GO), (∀ x ∈ l, x.1 ≠ id) → setO l id f = l
  | [], _, _, _ => rfl
  | a :: t, id, f, h => by
    show (if a.1 = id then (a.1, f a.2) else a) :: setO t id f = a :: t
    rw [if_neg (h a (by simp)), setO_not f (fun x hx => h x (by simp [hx]))]
theorem delO_not {l : List (Int × GO)} {id : Int} (h : ∀ x ∈ l, x.1 ≠ id) : delO id l = l := by
  unfold delO
  rw [List.filter_eq_self]
  intro x hx
  simp [h x hx]
theorem sumO_set (g : GO → Nat) (f : GO → GO) : ∀ {l : List (Int × GO)}, Asc l → ∀ {id : Int} {o : GO}, (id, o) ∈ l → sumO g (setO l id f) + g o = sumO g l + g (f o)
  | a :: t, h, id, o, hx => by
    have h1 := List.pairwise_cons.1 h
    show sumO g ((if a.1 = id then (a.1, f a.2) else a) :: setO t id f) + g o = _
    rw [sumO_cons, sumO_cons]
    rcases List.mem_cons.1 hx with e | hx
    · rw [← e]
      simp only [if_true]
      rw [← e] at h1
      rw [setO_not f (fun x hx => by have := h1.1 x hx; simp only at this; omega)]
      omega
    · have := h1.1 _ hx
      simp only at this
      rw [if_neg (by omega)]
      have := sumO_set g f h1.2 hx
      omega
theorem sumO_del (g : GO → Nat) : ∀ {l : List (Int × GO)}, Asc l → ∀ {id : Int} {o : GO}, (id, o) ∈ l → sumO g (delO id l) + g o = sumO g l
  | a :: t, h, id, o, hx => by
    have h1 := List.pairwise_cons.1 h
    rcases List.mem_cons.1 hx with e | hx
    · have : delO id (a :: t) = t := by
        rw [← e]
        show List.filter _ _ = _
        rw [List.filter_cons_of_neg (by simp)]
        exact delO_not (fun x hx => by have := h1.1 x hx; rw [← e] at this; simp only at this; omega)
      rw [this, sumO_cons, ← e]
      simp only
      omega
    · have hlt := h1.1 _ hx
      simp only at hlt
      have : delO id (a :: t) = a :: delO id t := by
        show List.filter _ _ = _
        rw [List.filter_cons_of_pos (by simp; omega)]
        rfl
      rw [this, sumO_cons, sumO_cons]
      have := sumO_del g h1.2 hx
      omega
theorem len_del {l : List (Int × GO)} (h : Asc l) {id : Int} {o : GO} (hx : (id, o) ∈ l) : (delO id l).length + 1 = l.length := by
  have := sumO_del (fun _ => 1) h hx
  rw [sumO_one, sumO_one] at this
  exact this
theorem sumO_ins (g : GO → Nat) (x : Int × GO) : ∀ l : List (Int × GO), sumO g (insO x l) = g x.2 + sumO g l
  | [] => rfl
  | y :: r => by
    unfold insO
    split
    · rfl
    · rw [sumO_cons, sumO_cons, sumO_ins g x r]; omega
theorem putO_none {G : GS} {id : Int} (h : G.at id = none) (o : GO) : putO (id, o) G.objs = insO (id, o) G.objs := by
  unfold putO
  rw [delO_not (fun x hx => at_none h hx)]
theorem len_put {G : GS} {id : Int} (h : G.at id = none) (o : GO) : (putO (id, o) G.objs).length = G.objs.length + 1 := by
  rw [putO_none h, ← sumO_one, sumO_ins, sumO_one]
  omega
theorem sum_put (g : GO → Nat) {G : GS} {id : Int} (h : G.at id = none) (o : GO) : sumO g (putO (id, o) G.objs) = g o + sumO g G.objs := by
  rw [putO_none h, sumO_ins]
theorem asc_set {l : List (Int × GO)} (h : Asc l) (id : Int) (f : GO → GO) : Asc (setO l id f) := by
  unfold Asc setO
  rw [List.pairwise_map]
  refine h.imp (fun {a b} hab => ?_)
  split <;> split <;> exact hab
theorem asc_del {l : List (Int × GO)} (h : Asc l) (id : Int) : Asc (delO id l) := List.Pairwise.filter _ h
theorem asc_ins : ∀ {l : List (Int × GO)}, Asc l → ∀ x : Int × GO, (∀ y ∈ l, y.1 ≠ x.1) → Asc (insO x l)
  | [], _, x, _ => List.pairwise_singleton _ _
  | a :: t, h, x, hn => by
    have h1 := List.pairwise_cons.1 h
    unfold insO
    split
    · rename_i hlt
      refine List.pairwise_cons.2 ⟨fun y hy => ?_, h⟩
      rcases List.mem_cons.1 hy with rfl | hy
      · exact hlt
      · have := h1.1 y hy; omega
    · rename_i hlt
      have hne := hn a (by simp)
      refine List.pairwise_cons.2 ⟨fun y hy => ?_, asc_ins h1.2 x (fun y hy => hn y (by simp [hy]))⟩
      rcases (mem_insO x y t).1 hy with rfl | hy
      · omega
      · exact h1.1 y hy
theorem asc_put {l : List (Int × GO)} (h : Asc l) (x : Int × GO) : Asc (putO x l) := asc_ins (asc_del h _) x (fun y hy => (mem_delO.1 hy).2)
theorem mem_setO_of {l : List (Int × GO)} {id : Int} {f : GO → GO} {y : Int × GO} (hy : y ∈ l) : (if y.1 = id then (y.1, f y.2) else y) ∈ setO l id f := List.mem_map.2 ⟨y, hy, rfl⟩
theorem sumO_le {g h : GO → Nat} : ∀ {l : List (Int × GO)}, (∀ x ∈ l, g x.2 ≤ h x.2) → sumO g l ≤ sumO h l
  | [], _ => Nat.le_refl _
  | a :: t, hh => by rw [sumO_cons, sumO_cons]; have := hh a (by simp); have := sumO_le (g := g) (h := h) (l := t) (fun x hx => hh x (by simp [hx])); omega
theorem le_sumO (g : GO → Nat) : ∀ {l : List (Int × GO)} {x : Int × GO}, x ∈ l → g x.2 ≤ sumO g l
  | a :: t, x, hx => by
    rw [sumO_cons]
    rcases List.mem_cons.1 hx with rfl | hx
    · omega
    · have := le_sumO g hx; omega
theorem sumO_zero {g : GO → Nat} {l : List (Int × GO)} (h : sumO g l = 0) {x : Int × GO} (hx : x ∈ l) : g x.2 = 0 := by have := le_sumO g hx; omega
theorem sumO_zero_of {g : GO → Nat} : ∀ {l : List (Int × GO)}, (∀ x ∈ l, g x.2 = 0) → sumO g l = 0
  | [], _ => rfl
  | a :: t, h => by rw [sumO_cons, h a (by simp), sumO_zero_of (fun x hx => h x (by simp [hx]))]
def Names (l : List Lk) : Prop := l.Pairwise (fun x y => bytesBefore x.1.data.toList y.1.data.toList = true)
def cntL (id : Int) (l : List Lk) : Nat := l.countP (fun k => decide (k.2.1 = id))
def cntO (id : Int) (o : GO) : Nat := cntL id o.links
def lenO (o : GO) : Nat := o.links.length
theorem before_irrefl : ∀ a : List UInt8, bytesBefore a a = false
  | [] => rfl
  | a :: r => by simp [bytesBefore, before_irrefl r]
theorem before_trans : ∀ {a b c : List UInt8}, bytesBefore a b = true → bytesBefore b c = true → bytesBefore a c = true
  | [], _, [], _, h => by cases ‹List UInt8› <;> simp [bytesBefore] at h
  | [], _, _ :: _, _, _ => rfl
  | _ :: _, [], _, h, _ => by simp [bytesBefore] at h
  | _ :: _, _ :: _, [], _, h => by simp [bytesBefore] at h
  | a :: r, b :: s, c :: t, h1, h2 => by
    simp only [bytesBefore, Bool.or_eq_true, Bool.and_eq_true, decide_eq_true_eq, beq_iff_eq] at h1 h2 ⊢
    rcases h1 with h1 | ⟨rfl, h1⟩ <;> rcases h2 with h2 | ⟨rfl, h2⟩
    · exact .inl (UInt8.lt_trans h1 h2)
    · exact .inl h1
    · exact .inl h2
    · exact .inr ⟨rfl, before_trans h1 h2⟩
theorem before_total : ∀ {a b : List UInt8}, bytesBefore a b = false → a ≠ b → bytesBefore b a = true
  | [], [], _, h => absurd rfl h
  | [], _ :: _, h, _ => by simp [bytesBefore] at h
  | _ :: _, [], _, _ => rfl
  | a :: r, b :: s, h, hn => by
    simp only [bytesBefore, Bool.or_eq_false_iff, Bool.and_eq_false_iff, decide_eq_false_iff_not, beq_eq_false_iff_ne, ne_eq] at h
    simp only [bytesBefore, Bool.or_eq_true, Bool.and_eq_true, decide_eq_true_eq, beq_iff_eq]
    by_cases e : a = b
    · subst e
      refine .inr ⟨rfl, before_total ?_ (fun e => hn (by rw [e]))⟩
      rcases h.2 with h2 | h2
      · exact absurd rfl h2
      · exact h2
    · refine .inl ?_
      rcases UInt8.lt_or_lt_of_ne e with h1 | h1
      · exact absurd h1 h.1
      · exact h1
theorem lnk_mem {l : List Lk} {n : ByteArray} {k : Lk} (h : lnk l n = some k) : k ∈ l ∧ k.1 = n := by
  unfold lnk at h
  exact ⟨List.mem_of_find?_eq_some h, bytes_inj (by simpa using List.find?_some h)⟩
theorem lnk_of_mem : ∀ {l : List Lk}, Names l → ∀ {k : Lk}, k ∈ l → lnk l k.1 = some k
  | a :: t, h, k, hk => by
    have h1 := List.pairwise_cons.1 h
    unfold lnk
    rw [List.find?_cons]
    rcases List.mem_cons.1 hk with rfl | hk
    · simp
    · have hb := h1.1 k hk
      rw [decide_eq_false (show ¬ a.1.data.toList = k.1.data.toList from fun e => by rw [e, before_irrefl] at hb; cases hb)]
      exact lnk_of_mem h1.2 hk
theorem lnk_none {l : List Lk} {n : ByteArray} (h : lnk l n = none) {k : Lk} (hk : k ∈ l) : k.1 ≠ n := by
  unfold lnk at h
  have := List.find?_eq_none.1 h k hk
  intro e
  rw [e] at this
  simp at this
theorem lnk_none_of {l : List Lk} {n : ByteArray} (h : ∀ k ∈ l, k.1 ≠ n) : lnk l n = none := by
  unfold lnk
  rw [List.find?_eq_none]
  intro k hk
  simpa using fun e => h k hk (bytes_inj e)
theorem mem_delK {n : ByteArray} {l : List Lk} {k : Lk} : k ∈ delK n l ↔ k ∈ l ∧ k.1 ≠ n := by
  unfold delK
  rw [List.mem_filter]
  refine and_congr_right (fun _ => ?_)
  simp only [Bool.not_eq_true', decide_eq_false_iff_not]
  exact ⟨fun h e => h (by rw [e]), fun h e => h (bytes_inj e)⟩
theorem delK_not {n : ByteArray} {l : List Lk} (h : ∀ k ∈ l, k.1 ≠ n) : delK n l = l := by
  unfold delK
  rw [List.filter_eq_self]
  intro k hk
  simp only [Bool.not_eq_true', decide_eq_false_iff_not]
  exact fun e => h k hk (bytes_inj e)
theorem names_del {l : List Lk} (h : Names l) (n : ByteArray) : Names (delK n l) := List.Pairwise.filter _ h
theorem mem_insB (x y : Lk) : ∀ l : List Lk, y ∈ insB x l ↔ y = x ∨ y ∈ l
  | [] => by simp [insB]
  | a :: t => by
    unfold insB
    split
    · simp
    · simp only [List.mem_cons, mem_insB x y t]
      constructor
      · rintro (h | h | h)
        · exact .inr (.inl h)
        · exact .inl h
        · exact .inr (.inr h)
      · rintro (h | h | h)
        · exact .inr (.inl h)
        · exact .inl h
        · exact .inr (.inr h)
theorem mem_putK {x y : Lk} {l : List Lk} : y ∈ putK x l ↔ y = x ∨ (y ∈ l ∧ y.1 ≠ x.1) := by
  unfold putK
  rw [mem_insB, mem_delK]
theorem names_ins : ∀ {l : List Lk}, Names l → ∀ x : Lk, (∀ y ∈ l, y.1 ≠ x.1) → Names (insB x l)
  | [], _, x, _ => List.pairwise_singleton _ _
  | a :: t, h, x, hn => by
    have h1 := List.pairwise_cons.1 h
    unfold insB
    split
    · rename_i hlt
      refine List.pairwise_cons.2 ⟨fun y hy => ?_, h⟩
      rcases List.mem_cons.1 hy with rfl | hy
      · exact hlt
      · exact before_trans hlt (h1.1 y hy)
    · rename_i hlt
      have hne := hn a (by simp)
      refine List.pairwise_cons.2 ⟨fun y hy => ?_, names_ins h1.2 x (fun y hy => hn y (by simp [hy]))⟩
      rcases (mem_insB x y t).1 hy with rfl | hy
      · exact before_total (by simpa using hlt) (fun e => hne (bytes_inj e).symm)
      · exact h1.1 y hy
theorem names_put {l : List Lk} (h : Names l) (x : Lk) : Names (putK x l) := names_ins (names_del h _) x (fun y hy => (mem_delK.1 hy).2)
theorem count_ins (p : Lk → Bool) (x : Lk) : ∀ l : List Lk, (insB x l).countP p = (if p x then 1 else 0) + l.countP p
  | [] => by simp [insB, List.countP_cons]
  | a :: t => by
    unfold insB
    split
    · rw [List.countP_cons]; omega
    · rw [List.countP_cons, List.countP_cons, count_ins p x t]; omega
theorem cnt_put {x : Lk} {l : List Lk} (h : lnk l x.1 = none) (id : Int) : cntL id (putK x l) = (if x.2.1 = id then 1 else 0) + cntL id l := by
  unfold cntL putK
  rw [delK_not (fun k hk => lnk_none h hk), count_ins]
  by_cases e : x.2.1 = id <;> simp [e]
theorem length_insB (x : Lk) : ∀ l : List Lk, (insB x l).length = l.length + 1
  | [] => rfl
  | a :: t => by unfold insB; split <;> simp [length_insB x t]
theorem len_putK {x : Lk} {l : List Lk} (h : lnk l x.1 = none) : (putK x l).length = l.length + 1 := by
  unfold putK
  rw [delK_not (fun k hk => lnk_none h hk), length_insB]
theorem del_split : ∀ {l : List Lk}, Names l → ∀ {k : Lk}, k ∈ l → ∃ a b, l = a ++ k :: b ∧ delK k.1 l = a ++ b
  | c :: t, h, k, hk => by
    have h1 := List.pairwise_cons.1 h
    rcases List.mem_cons.1 hk with rfl | hk
    · refine ⟨[], t, rfl, ?_⟩
      show List.filter _ _ = _
      rw [List.filter_cons_of_neg (by simp)]
      exact delK_not (fun y hy e => by have := h1.1 y hy; rw [e, before_irrefl] at this; cases this)
    · obtain ⟨a, b, e1, e2⟩ := del_split h1.2 hk
      refine ⟨c :: a, b, by rw [e1]; rfl, ?_⟩
      have hne : c.1 ≠ k.1 := fun e => by have := h1.1 k hk; rw [e, before_irrefl] at this; cases this
      show List.filter _ _ = _
      rw [List.filter_cons_of_pos (by simpa using fun e => hne (bytes_inj e))]
      show c :: delK k.1 t = _
      rw [e2]
      rfl
theorem cnt_del {l : List Lk} (h : Names l) {k : Lk} (hk : k ∈ l) (id : Int) : cntL id (delK k.1 l) + (if k.2.1 = id then 1 else 0) = cntL id l := by
  obtain ⟨a, b, e1, e2⟩ := del_split h hk
  unfold cntL
  rw [e2]
  rw [show List.countP (fun k => decide (k.2.1 = id)) l = List.countP (fun k => decide (k.2.1 = id)) (a ++ k :: b) from by rw [← e1]]
  rw [List.countP_append, List.countP_append, List.countP_cons]
  by_cases e : k.2.1 = id <;> simp [e] <;> omega
theorem len_delK {l : List Lk} (h : Names l) {k : Lk} (hk : k ∈ l) : (delK k.1 l).length + 1 = l.length := by
  obtain ⟨a, b, e1, e2⟩ := del_split h hk
  rw [e2]
  rw [show l.length = (a ++ k :: b).length from by rw [← e1]]
  simp
  omega
theorem cnt_pos {id : Int} {l : List Lk} {k : Lk} (hk : k ∈ l) (h : k.2.1 = id) : 0 < cntL id l := by
  unfold cntL
  rw [List.countP_pos_iff]
  exact ⟨k, hk, by simpa using h⟩
theorem cnt_zero {id : Int} {l : List Lk} (h : cntL id l = 0) {k : Lk} (hk : k ∈ l) : k.2.1 ≠ id := fun e => by have := cnt_pos hk e; omega
theorem cnt_le (id : Int) (l : List Lk) : cntL id l ≤ l.length := List.countP_le_length
end
end Go.Proofs.YthifdofdoeaemaaGreatDoor.Wk
end
section
namespace Go.Proofs.YthifdofdoeaemaaGreatDoor.Wk
open Go.RowKit Go.Proofs.YthifdofdoeaemaaGreatDoorW.PrintWords Go.Proofs.YthifdofdoeaemaaGreatDoorW.PrintLast Go.Proofs.YthifdofdoeaemaaGreatDoorW.PrintMore
attribute [local go_sem] max2_int min2_int max_two min_two max_three min_three max_four min_four
set_option linter.unusedVariables false
set_option linter.unusedSimpArgs false
section
open Go.RowKit Go.Lib Go.Maps
def LkOk (l : List (Int × GO)) (k : Lk) : Prop := goodName k.1 = true ∧ ((k.2.1 = 0 ∧ (parseP k.2.2).2.2 = 0) ∨ (2 ≤ k.2.1 ∧ k.2.2 = ⟨#[]⟩ ∧ ∃ o, (k.2.1, o) ∈ l))
structure Ok (G : GS) : Prop where
  asc : Asc G.objs
  root : ∃ o, (1, o) ∈ G.objs ∧ o.kind = 1
  ids : ∀ x ∈ G.objs, 1 ≤ x.1 ∧ x.1 < G.next
  kind : ∀ x ∈ G.objs, x.2.kind = 1 ∨ x.2.kind = 2 ∧ x.2.links = []
  names : ∀ x ∈ G.objs, Names x.2.links
  lk : ∀ x ∈ G.objs, ∀ k ∈ x.2.links, LkOk G.objs k
  leads : ∀ x ∈ G.objs, x.2.leads = sumO (cntO x.1) G.objs
  held : ∀ x ∈ G.objs, 0 ≤ x.2.held
  count : G.count = sumO lenO G.objs
  links : sumO lenO G.objs ≤ 256
  size : G.objs.length ≤ 128
  ones : ∀ x ∈ G.objs, x.2.kind = 1 → x.2.leads ≤ 1
theorem LkOk.id {l : List (Int × GO)} {k : Lk} (h : LkOk l k) : 0 ≤ k.2.1 := by rcases h.2 with h | h <;> omega
theorem Ok.obj {G : GS} (h : Ok G) {id : Int} {o : GO} (hx : (id, o) ∈ G.objs) : G.at id = some o := at_of_mem h.asc hx
theorem Ok.len {G : GS} (h : Ok G) {x : Int × GO} (hx : x ∈ G.objs) : x.2.links.length ≤ 256 := by have := le_sumO lenO hx; have := h.links; simp only [lenO] at *; omega
theorem sumO_cnt_le (id : Int) (l : List (Int × GO)) : sumO (cntO id) l ≤ sumO lenO l := sumO_le (fun x _ => cnt_le id x.2.links)
theorem Ok.lead {G : GS} (h : Ok G) {x : Int × GO} (hx : x ∈ G.objs) : 0 ≤ x.2.leads ∧ x.2.leads ≤ 256 := by
  have h1 := h.leads x hx
  have h2 := sumO_cnt_le x.1 G.objs
  have h3 := h.links
  omega
theorem sumO_keep {g : GO → Nat} {f : GO → GO} (h : ∀ o, g (f o) = g o) (id : Int) : ∀ l : List (Int × GO), sumO g (setO l id f) = sumO g l
  | [] => rfl
  | a :: t => by
    show sumO g ((if a.1 = id then (a.1, f a.2) else a) :: setO t id f) = _
    rw [sumO_cons, sumO_cons, sumO_keep h id t]
    split <;> simp [h]
def put2 (G : GS) (id : Int) (x : Lk) : GS := { G with count := G.count + 1, objs := setO (setO G.objs id (fun o => { o with links := putK x o.links })) x.2.1 (fun o => { o with leads := o.leads + 1 }) }
theorem put2_objs (G : GS) (id : Int) (x : Lk) : (put2 G id x).objs = setO (setO G.objs id (fun o => { o with links := putK x o.links })) x.2.1 (fun o => { o with leads := o.leads + 1 }) := rfl
theorem no_zero {G : GS} (h : Ok G) {x : Int × GO} (hx : x ∈ G.objs) : x.1 ≠ 0 := by have := h.ids x hx; omega
theorem put_some {G : GS} (h : Ok G) {id : Int} {o : GO} (ho : (id, o) ∈ G.objs) {x : Lk} (hx : x.2.1 = 0 ∨ 0 < x.2.1 ∧ ∃ t, (x.2.1, t) ∈ G.objs) : putG G id x = some (put2 G id x) := by
  have hl := h.len ho
  have hc := h.count
  have hc2 := h.links
  simp only at hl
  unfold putG
  rw [h.obj ho]
  simp only
  rw [if_pos ⟨by unfold bound; omega, by omega, by omega⟩]
  rcases hx with hx | ⟨hx, t, ht⟩
  · rw [if_neg (by omega)]
    unfold put2
    rw [hx, setO_not _ (l := setO G.objs id _) (fun y hy => by
      obtain ⟨z, hz, e⟩ := key_setO hy
      rw [e]
      exact no_zero h hz)]
  · rw [if_pos hx, at_setO, h.obj ht]
    simp only [Option.map_some]
    have hb : 0 ≤ t.leads ∧ t.leads ≤ 256 := h.lead ht
    rw [if_pos (by split <;> (try simp only) <;> omega)]
    rfl
theorem mem_setO2 {l : List (Int × GO)} {id : Int} {f : GO → GO} {x : Int × GO} (h : x ∈ setO l id f) : ∃ y ∈ l, x.1 = y.1 ∧ x.2 = if y.1 = id then f y.2 else y.2 := by
  obtain ⟨y, hy, rfl⟩ := mem_setO h
  refine ⟨y, hy, ?_, ?_⟩ <;> split <;> rfl
theorem put2_mem {G : GS} {id : Int} {x : Lk} {y : Int × GO} (hy : y ∈ (put2 G id x).objs) : ∃ z ∈ G.objs, y.1 = z.1 ∧ y.2.kind = z.2.kind ∧ y.2.held = z.2.held ∧
    y.2.links = (if z.1 = id then putK x z.2.links else z.2.links) ∧ y.2.leads = (if z.1 = x.2.1 then z.2.leads + 1 else z.2.leads) := by
  rw [put2_objs] at hy
  obtain ⟨a, ha, e1, e2⟩ := mem_setO2 hy
  obtain ⟨z, hz, f1, f2⟩ := mem_setO2 ha
  refine ⟨z, hz, e1.trans f1, ?_⟩
  rw [e2, f1, f2]
  by_cases h1 : z.1 = id <;> by_cases h2 : z.1 = x.2.1
  · simp only [if_pos h1, if_pos h2, and_self]
  · simp only [if_pos h1, if_neg h2, and_self]
  · simp only [if_neg h1, if_pos h2, and_self]
  · simp only [if_neg h1, if_neg h2, and_self]
theorem put2_of {G : GS} {id : Int} {x : Lk} {z : Int × GO} (hz : z ∈ G.objs) : ∃ p, (z.1, p) ∈ (put2 G id x).objs ∧ p.kind = z.2.kind ∧ p.held = z.2.held ∧
    p.links = (if z.1 = id then putK x z.2.links else z.2.links) ∧ p.leads = (if z.1 = x.2.1 then z.2.leads + 1 else z.2.leads) := by
  have h1 := mem_setO_of (id := id) (f := fun o => { o with links := putK x o.links }) hz
  have h2 := mem_setO_of (id := x.2.1) (f := fun o => { o with leads := o.leads + 1 }) h1
  by_cases e1 : z.1 = id <;> by_cases e2 : z.1 = x.2.1
  · simp only [if_pos e1, if_pos e2] at h2 ⊢
    exact ⟨_, h2, rfl, rfl, rfl, rfl⟩
  · simp only [if_pos e1, if_neg e2] at h2 ⊢
    exact ⟨_, h2, rfl, rfl, rfl, rfl⟩
  · simp only [if_neg e1, if_pos e2] at h2 ⊢
    exact ⟨_, h2, rfl, rfl, rfl, rfl⟩
  · simp only [if_neg e1, if_neg e2] at h2 ⊢
    exact ⟨_, h2, rfl, rfl, rfl, rfl⟩
theorem put2_sum {G : GS} (h : Ok G) {id : Int} {o : GO} (ho : (id, o) ∈ G.objs) {x : Lk} (hl : lnk o.links x.1 = none) (j : Int) : sumO (cntO j) (put2 G id x).objs = sumO (cntO j) G.objs + (if x.2.1 = j then 1 else 0) := by
  have h1 := sumO_set (cntO j) (fun o => { o with links := putK x o.links }) h.asc ho
  have h2 : cntO j { o with links := putK x o.links } = (if x.2.1 = j then 1 else 0) + cntO j o := cnt_put hl j
  rw [h2] at h1
  rw [put2_objs]
  rw [sumO_keep (g := cntO j) (f := fun o => { o with leads := o.leads + 1 }) (fun o => rfl)]
  omega
theorem put2_len {G : GS} (h : Ok G) {id : Int} {o : GO} (ho : (id, o) ∈ G.objs) {x : Lk} (hl : lnk o.links x.1 = none) : sumO lenO (put2 G id x).objs = sumO lenO G.objs + 1 := by
  have h1 := sumO_set lenO (fun o => { o with links := putK x o.links }) h.asc ho
  have h2 : lenO { o with links := putK x o.links } = lenO o + 1 := len_putK hl
  rw [h2] at h1
  rw [put2_objs]
  rw [sumO_keep (g := lenO) (f := fun o => { o with leads := o.leads + 1 }) (fun o => rfl)]
  omega
theorem LkOk.mono {l m : List (Int × GO)} {k : Lk} (h : LkOk l k) (hm : ∀ o, (k.2.1, o) ∈ l → ∃ p, (k.2.1, p) ∈ m) : LkOk m k := by
  refine ⟨h.1, h.2.imp_right ?_⟩
  rintro ⟨h1, h2, o, ho⟩
  exact ⟨h1, h2, hm o ho⟩
theorem put_ok {G : GS} (h : Ok G) {id : Int} {o : GO} (ho : (id, o) ∈ G.objs) (hk : o.kind = 1) {x : Lk} (hl : lnk o.links x.1 = none) (hx : LkOk G.objs x) (hc : G.count < 256) (ht : ∀ t, (x.2.1, t) ∈ G.objs → t.kind = 1 → t.leads = 0) : Ok (put2 G id x) where
  asc := by rw [put2_objs]; exact asc_set (asc_set h.asc _ _) _ _
  root := by
    obtain ⟨r, hr, hk⟩ := h.root
    obtain ⟨p, hp, e, -⟩ := put2_of (id := id) (x := x) hr
    exact ⟨p, hp, e.trans hk⟩
  ids := fun y hy => by obtain ⟨z, hz, e, -⟩ := put2_mem hy; rw [e]; exact h.ids z hz
  kind := fun y hy => by
    obtain ⟨z, hz, e1, e2, e3, e4, e5⟩ := put2_mem hy
    rw [e2, e4]
    by_cases e : z.1 = id
    · have := asc_uniq h.asc (show (id, z.2) ∈ G.objs from e ▸ hz) ho
      rw [this]
      exact .inl hk
    · rw [if_neg e]; exact h.kind z hz
  names := fun y hy => by
    obtain ⟨z, hz, e1, e2, e3, e4, e5⟩ := put2_mem hy
    rw [e4]
    split
    · exact names_put (h.names z hz) x
    · exact h.names z hz
  lk := fun y hy k hk' => by
    obtain ⟨z, hz, e1, e2, e3, e4, e5⟩ := put2_mem hy
    have hm : ∀ q, LkOk G.objs q → LkOk (put2 G id x).objs q := fun q hq => hq.mono (fun t ht => by obtain ⟨p, hp, -⟩ := put2_of (id := id) (x := x) ht; exact ⟨p, hp⟩)
    rw [e4] at hk'
    split at hk'
    · rcases mem_putK.1 hk' with rfl | ⟨hk', -⟩
      · exact hm _ hx
      · exact hm _ (h.lk z hz k hk')
    · exact hm _ (h.lk z hz k hk')
  leads := fun y hy => by
    obtain ⟨z, hz, e1, e2, e3, e4, e5⟩ := put2_mem hy
    have := h.leads z hz
    rw [put2_sum h ho hl, e5, e1]
    by_cases e : z.1 = x.2.1
    · rw [if_pos e, if_pos e.symm]; omega
    · rw [if_neg e, if_neg (fun q => e q.symm)]; omega
  held := fun y hy => by obtain ⟨z, hz, e1, e2, e3, -⟩ := put2_mem hy; rw [e3]; exact h.held z hz
  count := by rw [put2_len h ho hl]; have := h.count; show G.count + 1 = _; omega
  links := by rw [put2_len h ho hl]; have := h.count; omega
  size := by rw [put2_objs, length_setO, length_setO]; exact h.size
  ones := fun y hy hy1 => by
    obtain ⟨z, hz, e1, e2, e3, e4, e5⟩ := put2_mem hy
    rw [e5]
    rw [e2] at hy1
    split
    · rename_i e
      rw [ht z.2 (e ▸ hz) hy1]
      decide
    · exact h.ones z hz hy1
def cut2 (G : GS) (id : Int) (x : Lk) : GS := { G with count := G.count - 1, objs := setO (setO G.objs id (fun o => { o with links := delK x.1 o.links })) x.2.1 (fun o => { o with leads := o.leads - 1 }) }
theorem cut2_objs (G : GS) (id : Int) (x : Lk) : (cut2 G id x).objs = setO (setO G.objs id (fun o => { o with links := delK x.1 o.links })) x.2.1 (fun o => { o with leads := o.leads - 1 }) := rfl
theorem cut_eq (rec : GS → Int → Option (List Int × GS)) {G : GS} (h : Ok G) {id : Int} {o : GO} (ho : (id, o) ∈ G.objs) {x : Lk} (hx : x ∈ o.links) : cutG rec G id x.1 = if x.2.1 = 0 then some ([], cut2 G id x) else rec (cut2 G id x) x.2.1 := by
  have hc := h.count
  have hc2 := h.links
  unfold cutG
  rw [h.obj ho]
  simp only
  rw [if_pos ⟨by omega, by omega⟩, lnk_of_mem (h.names _ ho) hx]
  simp only
  by_cases e : x.2.1 = 0
  · rw [if_pos e, if_pos e]
    unfold cut2
    rw [e, setO_not _ (l := setO G.objs id _) (fun y hy => by
      obtain ⟨z, hz, e⟩ := key_setO hy
      rw [e]
      exact no_zero h hz)]
  · rw [if_neg e, if_neg e]
    obtain ⟨t, ht⟩ : ∃ t, (x.2.1, t) ∈ G.objs := by
      rcases (h.lk _ ho x hx).2 with h1 | h1
      · exact absurd h1.1 e
      · exact h1.2.2
    rw [at_setO, h.obj ht]
    simp only [Option.map_some]
    have hb : 0 ≤ t.leads ∧ t.leads ≤ 256 := h.lead ht
    rw [if_pos (by split <;> (try simp only) <;> omega)]
    rfl
theorem cut2_mem {G : GS} {id : Int} {x : Lk} {y : Int × GO} (hy : y ∈ (cut2 G id x).objs) : ∃ z ∈ G.objs, y.1 = z.1 ∧ y.2.kind = z.2.kind ∧ y.2.held = z.2.held ∧
    y.2.links = (if z.1 = id then delK x.1 z.2.links else z.2.links) ∧ y.2.leads = (if z.1 = x.2.1 then z.2.leads - 1 else z.2.leads) := by
  rw [cut2_objs] at hy
  obtain ⟨a, ha, e1, e2⟩ := mem_setO2 hy
  obtain ⟨z, hz, f1, f2⟩ := mem_setO2 ha
  refine ⟨z, hz, e1.trans f1, ?_⟩
  rw [e2, f1, f2]
  by_cases h1 : z.1 = id <;> by_cases h2 : z.1 = x.2.1
  · simp only [if_pos h1, if_pos h2, and_self]
  · simp only [if_pos h1, if_neg h2, and_self]
  · simp only [if_neg h1, if_pos h2, and_self]
  · simp only [if_neg h1, if_neg h2, and_self]
theorem cut2_of {G : GS} {id : Int} {x : Lk} {z : Int × GO} (hz : z ∈ G.objs) : ∃ p, (z.1, p) ∈ (cut2 G id x).objs ∧ p.kind = z.2.kind ∧ p.held = z.2.held ∧
    p.links = (if z.1 = id then delK x.1 z.2.links else z.2.links) ∧ p.leads = (if z.1 = x.2.1 then z.2.leads - 1 else z.2.leads) := by
  have h1 := mem_setO_of (id := id) (f := fun o => { o with links := delK x.1 o.links }) hz
  have h2 := mem_setO_of (id := x.2.1) (f := fun o => { o with leads := o.leads - 1 }) h1
  by_cases e1 : z.1 = id <;> by_cases e2 : z.1 = x.2.1
  · simp only [if_pos e1, if_pos e2] at h2 ⊢
    exact ⟨_, h2, rfl, rfl, rfl, rfl⟩
  · simp only [if_pos e1, if_neg e2] at h2 ⊢
    exact ⟨_, h2, rfl, rfl, rfl, rfl⟩
  · simp only [if_neg e1, if_pos e2] at h2 ⊢
    exact ⟨_, h2, rfl, rfl, rfl, rfl⟩
  · simp only [if_neg e1, if_neg e2] at h2 ⊢
    exact ⟨_, h2, rfl, rfl, rfl, rfl⟩
theorem cut2_sum {G : GS} (h : Ok G) {id : Int} {o : GO} (ho : (id, o) ∈ G.objs) {x : Lk} (hx : x ∈ o.links) (j : Int) : sumO (cntO j) (cut2 G id x).objs + (if x.2.1 = j then 1 else 0) = sumO (cntO j) G.objs := by
  have h1 := sumO_set (cntO j) (fun o => { o with links := delK x.1 o.links }) h.asc ho
  have h2 : cntO j { o with links := delK x.1 o.links } + (if x.2.1 = j then 1 else 0) = cntO j o := cnt_del (h.names _ ho) hx j
  rw [cut2_objs]
  rw [sumO_keep (g := cntO j) (f := fun o => { o with leads := o.leads - 1 }) (fun o => rfl)]
  omega
theorem cut2_len {G : GS} (h : Ok G) {id : Int} {o : GO} (ho : (id, o) ∈ G.objs) {x : Lk} (hx : x ∈ o.links) : sumO lenO (cut2 G id x).objs + 1 = sumO lenO G.objs := by
  have h1 := sumO_set lenO (fun o => { o with links := delK x.1 o.links }) h.asc ho
  have h2 : lenO { o with links := delK x.1 o.links } + 1 = lenO o := len_delK (h.names _ ho) hx
  rw [cut2_objs]
  rw [sumO_keep (g := lenO) (f := fun o => { o with leads := o.leads - 1 }) (fun o => rfl)]
  omega
theorem cut_ok {G : GS} (h : Ok G) {id : Int} {o : GO} (ho : (id, o) ∈ G.objs) {x : Lk} (hx : x ∈ o.links) : Ok (cut2 G id x) where
  asc := by rw [cut2_objs]; exact asc_set (asc_set h.asc _ _) _ _
  root := by
    obtain ⟨r, hr, hk⟩ := h.root
    obtain ⟨p, hp, e, -⟩ := cut2_of (id := id) (x := x) hr
    exact ⟨p, hp, e.trans hk⟩
  ids := fun y hy => by obtain ⟨z, hz, e, -⟩ := cut2_mem hy; rw [e]; exact h.ids z hz
  kind := fun y hy => by
    obtain ⟨z, hz, e1, e2, e3, e4, e5⟩ := cut2_mem hy
    rw [e2, e4]
    refine (h.kind z hz).imp_right (fun ⟨a, b⟩ => ⟨a, ?_⟩)
    rw [b]
    split <;> rfl
  names := fun y hy => by
    obtain ⟨z, hz, e1, e2, e3, e4, e5⟩ := cut2_mem hy
    rw [e4]
    split
    · exact names_del (h.names z hz) _
    · exact h.names z hz
  lk := fun y hy k hk' => by
    obtain ⟨z, hz, e1, e2, e3, e4, e5⟩ := cut2_mem hy
    have hm : ∀ q, LkOk G.objs q → LkOk (cut2 G id x).objs q := fun q hq => hq.mono (fun t ht => by obtain ⟨p, hp, -⟩ := cut2_of (id := id) (x := x) ht; exact ⟨p, hp⟩)
    rw [e4] at hk'
    split at hk'
    · exact hm _ (h.lk z hz k (mem_delK.1 hk').1)
    · exact hm _ (h.lk z hz k hk')
  leads := fun y hy => by
    obtain ⟨z, hz, e1, e2, e3, e4, e5⟩ := cut2_mem hy
    have h1 := h.leads z hz
    have h2 := cut2_sum h ho hx z.1
    rw [e5, e1]
    by_cases e : z.1 = x.2.1
    · rw [if_pos e]; rw [if_pos e.symm] at h2; omega
    · rw [if_neg e]; rw [if_neg (fun q => e q.symm)] at h2; omega
  held := fun y hy => by obtain ⟨z, hz, e1, e2, e3, -⟩ := cut2_mem hy; rw [e3]; exact h.held z hz
  count := by have := cut2_len h ho hx; have := h.count; show G.count - 1 = _; omega
  links := by have := cut2_len h ho hx; have := h.links; omega
  size := by rw [cut2_objs, length_setO, length_setO]; exact h.size
  ones := fun y hy hy1 => by
    obtain ⟨z, hz, e1, e2, e3, e4, e5⟩ := cut2_mem hy
    rw [e2] at hy1
    have := h.ones z hz hy1
    rw [e5]
    split <;> omega
theorem drop_ok {G : GS} (h : Ok G) {id : Int} {o : GO} (ho : (id, o) ∈ G.objs) (h1 : id ≠ 1) (hl : o.links = []) (h0 : o.leads = 0) : Ok { G with objs := delO id G.objs } where
  asc := asc_del h.asc _
  root := by obtain ⟨r, hr, hk⟩ := h.root; exact ⟨r, mem_delO.2 ⟨hr, fun e => h1 e.symm⟩, hk⟩
  ids := fun y hy => h.ids y (mem_delO.1 hy).1
  kind := fun y hy => h.kind y (mem_delO.1 hy).1
  names := fun y hy => h.names y (mem_delO.1 hy).1
  lk := fun y hy k hk => (h.lk y (mem_delO.1 hy).1 k hk).mono (fun t ht => ⟨t, mem_delO.2 ⟨ht, fun e => by
    have e2 : k.2.1 = id := e
    have h2 := h.leads _ ho
    simp only at h2
    rw [h0] at h2
    have h3 := sumO_zero (show sumO (cntO id) G.objs = 0 by omega) (mem_delO.1 hy).1
    exact cnt_zero h3 hk e2⟩⟩)
  leads := fun y hy => by
    have h2 := h.leads y (mem_delO.1 hy).1
    have h3 := sumO_del (cntO y.1) h.asc ho
    have h4 : cntO y.1 o = 0 := by unfold cntO; rw [hl]; rfl
    show _ = ((sumO (cntO y.1) (delO id G.objs) : Nat) : Int)
    omega
  held := fun y hy => h.held y (mem_delO.1 hy).1
  count := by
    have h3 := sumO_del lenO h.asc ho
    have h4 : lenO o = 0 := by unfold lenO; rw [hl]; rfl
    have := h.count
    show G.count = ((sumO lenO (delO id G.objs) : Nat) : Int)
    omega
  links := by
    have h3 := sumO_del lenO h.asc ho
    have := h.links
    show sumO lenO (delO id G.objs) ≤ 256
    omega
  size := by have := len_del h.asc ho; have := h.size; show (delO id G.objs).length ≤ 128; omega
  ones := fun y hy => h.ones y (mem_delO.1 hy).1
theorem fresh {G : GS} (h : Ok G) : G.at G.next = none := by
  cases e : G.at G.next with
  | none => rfl
  | some o => have := h.ids _ (at_mem e); simp only at this; omega
theorem new_ok {G : GS} (h : Ok G) (hs : G.objs.length < 128) (kind : Int) (hk : kind = 1 ∨ kind = 2) : Ok { G with next := G.next + 1, objs := putO (G.next, newO kind) G.objs } := by
  have hn := fresh h
  have hm : ∀ {y}, y ∈ putO (G.next, newO kind) G.objs → y = (G.next, newO kind) ∨ y ∈ G.objs := fun hy => (mem_putO.1 hy).imp_right (fun a => a.1)
  have hm2 : ∀ {y}, y ∈ G.objs → y ∈ putO (G.next, newO kind) G.objs := fun hy => mem_putO.2 (.inr ⟨hy, at_none hn hy⟩)
  have hsum : ∀ j, sumO (cntO j) (putO (G.next, newO kind) G.objs) = sumO (cntO j) G.objs := fun j => by rw [sum_put _ hn]; show 0 + _ = _; omega
  have hlen : sumO lenO (putO (G.next, newO kind) G.objs) = sumO lenO G.objs := by rw [sum_put _ hn]; show 0 + _ = _; omega
  have hz : sumO (cntO G.next) G.objs = 0 := sumO_zero_of (fun x hx => by
    show cntL _ x.2.links = 0
    unfold cntL
    rw [List.countP_eq_zero]
    intro k hk
    have h1 := (h.lk x hx k hk).2
    simp only [decide_eq_true_eq]
    intro e
    obtain ⟨r, hr, -⟩ := h.root
    have hr1 := h.ids _ hr
    simp only at hr1
    rcases h1 with h1 | ⟨h1, -, t, ht⟩
    · omega
    · exact at_none hn ht e)
  have h0 : 1 < G.next := by obtain ⟨r, hr, -⟩ := h.root; have hr1 := h.ids _ hr; simp only at hr1; omega
  exact {
    asc := asc_put h.asc _
    root := by obtain ⟨r, hr, hk⟩ := h.root; exact ⟨r, hm2 hr, hk⟩
    ids := fun y hy => by
      rcases hm hy with rfl | hy
      · exact ⟨by show 1 ≤ G.next; omega, by show G.next < G.next + 1; omega⟩
      · have := h.ids y hy; exact ⟨this.1, by show y.1 < G.next + 1; omega⟩
    kind := fun y hy => by
      rcases hm hy with rfl | hy
      · exact hk.imp_right (fun e => ⟨e, rfl⟩)
      · exact h.kind y hy
    names := fun y hy => by
      rcases hm hy with rfl | hy
      · exact List.Pairwise.nil
      · exact h.names y hy
    lk := fun y hy k hk => by
      rcases hm hy with rfl | hy
      · cases hk
      · exact (h.lk y hy k hk).mono (fun t ht => ⟨t, hm2 ht⟩)
    leads := fun y hy => by
      rw [hsum]
      rcases hm hy with rfl | hy
      · rw [hz]; rfl
      · exact h.leads y hy
    held := fun y hy => by
      rcases hm hy with rfl | hy
      · exact Int.le_refl 0
      · exact h.held y hy
    count := by rw [hlen]; exact h.count
    links := by rw [hlen]; exact h.links
    size := by show (putO _ _).length ≤ 128; rw [len_put hn]; omega
    ones := fun y hy => by
      rcases hm hy with rfl | hy
      · intro _; show (0 : Int) ≤ 1; decide
      · exact h.ones y hy }
theorem new_ok0 : Ok newG where
  asc := List.pairwise_singleton _ _
  root := ⟨_, List.mem_singleton.2 rfl, rfl⟩
  ids := fun x hx => by obtain rfl := List.mem_singleton.1 hx; exact ⟨by decide, by decide⟩
  kind := fun x hx => by obtain rfl := List.mem_singleton.1 hx; exact .inl rfl
  names := fun x hx => by obtain rfl := List.mem_singleton.1 hx; exact List.Pairwise.nil
  lk := fun x hx k hk => by obtain rfl := List.mem_singleton.1 hx; cases hk
  leads := fun x hx => by obtain rfl := List.mem_singleton.1 hx; rfl
  held := fun x hx => by obtain rfl := List.mem_singleton.1 hx; exact Int.le_refl 0
  count := rfl
  links := by decide
  size := by decide
  ones := fun x hx _ => by obtain rfl := List.mem_singleton.1 hx; decide
end
end Go.Proofs.YthifdofdoeaemaaGreatDoor.Wk
end
section
namespace Go.Proofs.YthifdofdoeaemaaGreatDoor.Wk
open Go.RowKit Go.Proofs.YthifdofdoeaemaaGreatDoorW.PrintWords Go.Proofs.YthifdofdoeaemaaGreatDoorW.PrintLast Go.Proofs.YthifdofdoeaemaaGreatDoorW.PrintMore
attribute [local go_sem] max2_int min2_int max_two min_two max_three min_three max_four min_four
set_option linter.unusedVariables false
set_option linter.unusedSimpArgs false
section
open Go.RowKit Go.Lib Go.Maps
structure Step (i : Int) (G : GS) (r : List Int) (G2 : GS) : Prop where
  ok : Ok G2
  next : G2.next = G.next
  size : G2.objs.length + r.length = G.objs.length
  links : sumO lenO G2.objs ≤ sumO lenO G.objs
  back : ∀ y q, (y, q) ∈ G2.objs → ∃ p, (y, p) ∈ G.objs ∧ q.kind = p.kind ∧ q.held = p.held ∧ q.leads ≤ p.leads
  same : ∀ y q p, (y, q) ∈ G2.objs → (y, p) ∈ G.objs → y ≠ i → q.links = p.links
  gone : ∀ y ∈ r, y ≠ 1 ∧ (∃ p, (y, p) ∈ G.objs ∧ p.held = 0) ∧ ∀ q, (y, q) ∉ G2.objs
  kept : ∀ y p, (y, p) ∈ G.objs → y ∈ r ∨ ∃ q, (y, q) ∈ G2.objs
  nodup : r.Nodup
  free : ∀ y p, (y, p) ∈ G.objs → p.leads = 0 → y ≠ i → (y, p) ∈ G2.objs
  rest : ∀ y q, (y, q) ∈ G2.objs → q.leads = 0 → q.held = 0 → y ≠ 1 → y ≠ i → ∃ p, (y, p) ∈ G.objs ∧ p.leads = 0
theorem Step.refl (i : Int) {G : GS} (h : Ok G) : Step i G [] G where
  ok := h
  next := rfl
  size := rfl
  links := Nat.le_refl _
  back := fun y q hq => ⟨q, hq, rfl, rfl, Int.le_refl _⟩
  same := fun y q p hq hp _ => by rw [asc_uniq h.asc hq hp]
  gone := fun y hy => by cases hy
  kept := fun y p hp => .inr ⟨p, hp⟩
  nodup := List.nodup_nil
  free := fun y p hp _ _ => hp
  rest := fun y q hq h0 _ _ _ => ⟨q, hq, h0⟩
theorem Step.trans {i : Int} {G0 G1 G2 : GS} {r1 r2 : List Int} (h0 : Ok G0) (a : Step i G0 r1 G1) (b : Step i G1 r2 G2) : Step i G0 (r1 ++ r2) G2 where
  ok := b.ok
  next := b.next.trans a.next
  size := by have := a.size; have := b.size; rw [List.length_append]; omega
  links := Nat.le_trans b.links a.links
  back := fun y q hq => by
    obtain ⟨p, hp, e1, e2, e3⟩ := b.back y q hq
    obtain ⟨o, ho, f1, f2, f3⟩ := a.back y p hp
    exact ⟨o, ho, e1.trans f1, e2.trans f2, Int.le_trans e3 f3⟩
  same := fun y q o hq ho hy => by
    obtain ⟨p, hp, -⟩ := b.back y q hq
    exact (b.same y q p hq hp hy).trans (a.same y p o hp ho hy)
  gone := fun y hy => by
    rcases List.mem_append.1 hy with hy | hy
    · obtain ⟨h1, h2, h3⟩ := a.gone y hy
      refine ⟨h1, h2, fun q hq => ?_⟩
      obtain ⟨p, hp, -⟩ := b.back y q hq
      exact h3 p hp
    · obtain ⟨h1, ⟨p, hp, e⟩, h3⟩ := b.gone y hy
      obtain ⟨o, ho, f1, f2, f3⟩ := a.back y p hp
      exact ⟨h1, ⟨o, ho, f2.symm.trans e⟩, h3⟩
  kept := fun y o ho => by
    rcases a.kept y o ho with h | ⟨p, hp⟩
    · exact .inl (List.mem_append.2 (.inl h))
    · exact (b.kept y p hp).imp_left (fun h => List.mem_append.2 (.inr h))
  nodup := by
    refine List.nodup_append.2 ⟨a.nodup, b.nodup, fun x hx y hy e => ?_⟩
    obtain ⟨-, -, h3⟩ := a.gone x hx
    obtain ⟨-, ⟨p, hp, -⟩, -⟩ := b.gone y hy
    exact h3 p (e ▸ hp)
  free := fun y p hp h1 h2 => b.free y p (a.free y p hp h1 h2) h1 h2
  rest := fun y q hq h1 h2 h3 h4 => by
    obtain ⟨p, hp, e1, e2, e3⟩ := b.back y q hq
    obtain ⟨p', hp', e⟩ := b.rest y q hq h1 h2 h3 h4
    obtain rfl := asc_uniq a.ok.asc hp hp'
    exact a.rest y p hp e (e2.symm.trans h2) h3 h4
def Clean (i : Int) (G G2 : GS) : Prop := ∀ q, (i, q) ∈ G2.objs → (∀ p, (i, p) ∈ G.objs → q.links = p.links) ∧ ¬ (i ≠ 1 ∧ q.leads = 0 ∧ q.held = 0)
theorem GO.eq {o p : GO} (h1 : o.kind = p.kind) (h2 : o.links = p.links) (h3 : o.leads = p.leads) (h4 : o.held = p.held) : o = p := by
  cases o; cases p
  simp only at h1 h2 h3 h4
  rw [h1, h2, h3, h4]
theorem cut2_free {G : GS} {id : Int} {x : Lk} {y : Int} {p : GO} (hp : (y, p) ∈ G.objs) (h1 : y ≠ id) (h2 : y ≠ x.2.1) : (y, p) ∈ (cut2 G id x).objs := by
  obtain ⟨q, hq, e1, e2, e3, e4⟩ := cut2_of (id := id) (x := x) hp
  simp only [if_neg h1, if_neg h2] at e3 e4
  rw [← GO.eq (o := q) (p := p) e1 e3 e4 e2]
  exact hq
theorem cut2_self {G : GS} {id : Int} {x : Lk} {p : GO} (hp : (id, p) ∈ G.objs) (h2 : id ≠ x.2.1) : (id, { p with links := delK x.1 p.links }) ∈ (cut2 G id x).objs := by
  obtain ⟨q, hq, e1, e2, e3, e4⟩ := cut2_of (id := id) (x := x) hp
  simp only [if_pos, if_neg h2] at e3 e4
  rw [← GO.eq (o := q) (p := { p with links := delK x.1 p.links }) e1 e3 e4 e2]
  exact hq
theorem cut2_back {G : GS} {id : Int} {x : Lk} {y : Int} {q : GO} (hq : (y, q) ∈ (cut2 G id x).objs) : ∃ p, (y, p) ∈ G.objs ∧ q.kind = p.kind ∧ q.held = p.held ∧ q.leads ≤ p.leads ∧ (y ≠ id → q.links = p.links) ∧ (y ≠ x.2.1 → q.leads = p.leads) := by
  obtain ⟨z, hz, e1, e2, e3, e4, e5⟩ := cut2_mem hq
  simp only at e1 e2 e3 e4 e5
  subst e1
  refine ⟨z.2, hz, e2, e3, ?_, ?_, ?_⟩
  · rw [e5]; split <;> omega
  · intro h; rw [e4, if_neg h]
  · intro h; rw [e5, if_neg h]
theorem led {G : GS} (h : Ok G) {id : Int} {o : GO} (ho : (id, o) ∈ G.objs) {x : Lk} (hx : x ∈ o.links) {t : GO} (ht : (x.2.1, t) ∈ G.objs) : 0 < t.leads := by
  have h1 := h.leads _ ht
  have h2 := le_sumO (cntO x.2.1) ho
  have h3 : 0 < cntO x.2.1 o := cnt_pos hx rfl
  simp only at h1 h2
  omega
theorem cut_soft {G : GS} (h : Ok G) {id : Int} {o : GO} (ho : (id, o) ∈ G.objs) {x : Lk} (hx : x ∈ o.links) (h0 : x.2.1 = 0) : Step id G [] (cut2 G id x) where
  ok := cut_ok h ho hx
  next := rfl
  size := by rw [cut2_objs, length_setO, length_setO]; rfl
  links := by have := cut2_len h ho hx; omega
  back := fun y q hq => by obtain ⟨p, hp, e1, e2, e3, -⟩ := cut2_back hq; exact ⟨p, hp, e1, e2, e3⟩
  same := fun y q p hq hp hy => by
    obtain ⟨p', hp', -, -, -, e, -⟩ := cut2_back hq
    obtain rfl := asc_uniq h.asc hp hp'
    exact e hy
  gone := fun y hy => by cases hy
  kept := fun y p hp => by obtain ⟨q, hq, -⟩ := cut2_of (id := id) (x := x) hp; exact .inr ⟨q, hq⟩
  nodup := List.nodup_nil
  free := fun y p hp h1 h2 => cut2_free hp h2 (by rw [h0]; exact no_zero h hp)
  rest := fun y q hq h1 _ _ _ => by
    obtain ⟨p, hp, -, -, -, -, e⟩ := cut2_back hq
    exact ⟨p, hp, (e (by rw [h0]; exact no_zero h hp)).symm.trans h1⟩
theorem cut_hard {G G2 : GS} {r : List Int} (h : Ok G) {id : Int} {o : GO} (ho : (id, o) ∈ G.objs) (hl : o.leads = 0) {x : Lk} (hx : x ∈ o.links) {t : GO} (ht : (x.2.1, t) ∈ G.objs) (hs : Step x.2.1 (cut2 G id x) r G2) (hc : Clean x.2.1 (cut2 G id x) G2) :
    Step id G r G2 ∧ (id, { o with links := delK x.1 o.links }) ∈ G2.objs := by
  have hti := led h ho hx ht
  have hne : id ≠ x.2.1 := fun e => by
    obtain rfl := asc_uniq h.asc ho (show (id, t) ∈ G.objs by rw [e]; exact ht)
    omega
  refine ⟨?_, hs.free _ _ (cut2_self ho hne) hl hne⟩
  exact {
    ok := hs.ok
    next := hs.next
    size := by rw [hs.size, cut2_objs, length_setO, length_setO]
    links := by have := cut2_len h ho hx; have := hs.links; omega
    back := fun y q hq => by
      obtain ⟨p, hp, e1, e2, e3⟩ := hs.back y q hq
      obtain ⟨z, hz, f1, f2, f3, -⟩ := cut2_back hp
      exact ⟨z, hz, e1.trans f1, e2.trans f2, Int.le_trans e3 f3⟩
    same := fun y q z hq hz hy => by
      obtain ⟨p, hp, -⟩ := hs.back y q hq
      obtain ⟨z', hz', -, -, -, e, -⟩ := cut2_back hp
      obtain rfl := asc_uniq h.asc hz hz'
      rw [← e hy]
      by_cases hyt : y = x.2.1
      · subst hyt
        exact (hc q hq).1 p hp
      · exact hs.same y q p hq hp hyt
    gone := fun y hy => by
      obtain ⟨h1, ⟨p, hp, e⟩, h3⟩ := hs.gone y hy
      obtain ⟨z, hz, f1, f2, -⟩ := cut2_back hp
      exact ⟨h1, ⟨z, hz, f2.symm.trans e⟩, h3⟩
    kept := fun y z hz => by
      obtain ⟨p, hp, -⟩ := cut2_of (id := id) (x := x) hz
      exact hs.kept y p hp
    nodup := hs.nodup
    free := fun y p hp h1 h2 => by
      have hyt : y ≠ x.2.1 := fun e => by
        subst e
        obtain rfl := asc_uniq h.asc hp ht
        omega
      exact hs.free y p (cut2_free hp h2 hyt) h1 hyt
    rest := fun y q hq h1 h2 h3 h4 => by
      by_cases hyt : y = x.2.1
      · subst hyt
        exact absurd ⟨h3, h1, h2⟩ (hc q hq).2
      · obtain ⟨p, hp, e⟩ := hs.rest y q hq h1 h2 h3 hyt
        obtain ⟨z, hz, -, -, -, -, f⟩ := cut2_back hp
        exact ⟨z, hz, (f hyt).symm.trans e⟩ }
theorem delK_head {k : Lk} {ks : List Lk} (h : Names (k :: ks)) : delK k.1 (k :: ks) = ks := by
  have h1 := List.pairwise_cons.1 h
  show List.filter _ _ = _
  rw [List.filter_cons_of_neg (by simp)]
  exact delK_not (fun y hy e => by have := h1.1 y hy; rw [e, before_irrefl] at this; cases this)
theorem cutAll_ok (n : Nat) (IH : ∀ (G : GS) (id : Int) (x : GO), Ok G → (id, x) ∈ G.objs → sumO lenO G.objs < n → ∃ r G2, sweepG n G id = some (r, G2) ∧ Step id G r G2 ∧ Clean id G G2) (id : Int) :
    ∀ (ks : List Lk) (G : GS) (x : GO) (acc : List Int), Ok G → (id, x) ∈ G.objs → x.leads = 0 → x.links = ks → sumO lenO G.objs < n + 1 → acc.length + G.objs.length ≤ 1000 →
      ∃ r G2, cutAll (sweepG n) id ks (acc, G) = some (acc ++ r, G2) ∧ Step id G r G2 ∧ (id, { x with links := [] }) ∈ G2.objs
  | [], G, x, acc, h, hx, h0, hk, hs, hb => ⟨[], G, by rw [List.append_nil]; rfl, Step.refl _ h, by rw [← hk]; exact hx⟩
  | k :: ks, G, x, acc, h, hx, h0, hk, hs, hb => by
    have hkm : k ∈ x.links := by rw [hk]; simp
    have hdel : delK k.1 x.links = ks := by rw [hk]; exact delK_head (hk ▸ h.names _ hx)
    have key : ∃ r G1, cutG (sweepG n) G id k.1 = some (r, G1) ∧ Step id G r G1 ∧ (id, { x with links := ks }) ∈ G1.objs := by
      rw [cut_eq _ h hx hkm]
      by_cases e : k.2.1 = 0
      · rw [if_pos e]
        exact ⟨[], _, rfl, cut_soft h hx hkm e, hdel ▸ cut2_self hx (by rw [e]; exact no_zero h hx)⟩
      · rw [if_neg e]
        obtain ⟨t, ht⟩ : ∃ t, (k.2.1, t) ∈ G.objs := by
          rcases (h.lk _ hx k hkm).2 with h1 | h1
          · exact absurd h1.1 e
          · exact h1.2.2
        obtain ⟨p, hp, -⟩ := cut2_of (id := id) (x := k) ht
        obtain ⟨r, G1, hr, hst, hcl⟩ := IH (cut2 G id k) k.2.1 p (cut_ok h hx hkm) hp (by have := cut2_len h hx hkm; omega)
        obtain ⟨a, b⟩ := cut_hard h hx h0 hkm ht hst hcl
        exact ⟨r, G1, hr, a, hdel ▸ b⟩
    obtain ⟨r, G1, hr, hst, hm⟩ := key
    obtain ⟨r2, G2, hr2, hst2, hm2⟩ := cutAll_ok n IH id ks G1 { x with links := ks } (acc ++ r) hst.ok hm h0 rfl (Nat.lt_of_le_of_lt hst.links hs) (by have := hst.size; rw [List.length_append]; omega)
    refine ⟨r ++ r2, G2, ?_, hst.trans h hst2, hm2⟩
    unfold cutAll
    simp only [hr]
    rw [if_pos (by have := hst.size; unfold bound; omega), hr2, List.append_assoc]
theorem sweep_ok : ∀ (n : Nat) (G : GS) (id : Int) (x : GO), Ok G → (id, x) ∈ G.objs → sumO lenO G.objs < n → ∃ r G2, sweepG n G id = some (r, G2) ∧ Step id G r G2 ∧ Clean id G G2
  | 0, _, _, _, _, _, h => absurd h (by omega)
  | n + 1, G, id, x, h, hx, hs => by
    unfold sweepG
    rw [h.obj hx]
    simp only
    by_cases hstop : id = 1 ∨ 0 < x.leads ∨ 0 < x.held
    · rw [if_pos hstop]
      refine ⟨[], G, rfl, Step.refl _ h, fun q hq => ?_⟩
      obtain rfl := asc_uniq h.asc hq hx
      exact ⟨fun p hp => by rw [asc_uniq h.asc hx hp], fun ⟨a, b, c⟩ => by omega⟩
    · rw [if_neg hstop]
      have hlen := h.len hx
      rw [if_pos (by unfold bound; simp only at hlen; omega)]
      have hl0 : x.leads = 0 := by have := (h.lead hx).1; simp only at this; omega
      have hh0 : x.held = 0 := by have := h.held _ hx; simp only at this; omega
      obtain ⟨r, G1, hr, hst, hm⟩ := cutAll_ok n (fun G id x => sweep_ok n G id x) id x.links G x [id] h hx hl0 rfl hs (by have := h.size; simp; omega)
      rw [hr]
      have hd1 := len_del hst.ok.asc hm
      have hd2 := sumO_del lenO hst.ok.asc hm
      refine ⟨[id] ++ r, _, rfl, ?_, fun q hq => absurd rfl (mem_delO.1 hq).2⟩
      exact {
        ok := drop_ok hst.ok hm (by omega) rfl hl0
        next := hst.next
        size := by have := hst.size; show (delO id G1.objs).length + _ = _; simp only [List.length_append, List.length_singleton]; omega
        links := by have := hst.links; show sumO lenO (delO id G1.objs) ≤ _; omega
        back := fun y q hq => hst.back y q (mem_delO.1 hq).1
        same := fun y q p hq hp hy => hst.same y q p (mem_delO.1 hq).1 hp hy
        gone := fun y hy => by
          rcases List.mem_append.1 hy with hy | hy
          · obtain rfl := List.mem_singleton.1 hy
            exact ⟨by omega, ⟨x, hx, hh0⟩, fun q hq => (mem_delO.1 hq).2 rfl⟩
          · obtain ⟨h1, h2, h3⟩ := hst.gone y hy
            exact ⟨h1, h2, fun q hq => h3 q (mem_delO.1 hq).1⟩
        kept := fun y p hp => by
          rcases hst.kept y p hp with h1 | ⟨q, hq⟩
          · exact .inl (List.mem_append.2 (.inr h1))
          · by_cases e : y = id
            · exact .inl (by rw [e]; simp)
            · exact .inr ⟨q, mem_delO.2 ⟨hq, e⟩⟩
        nodup := by
          refine List.nodup_cons.2 ⟨fun hi => ?_, hst.nodup⟩
          exact (hst.gone id hi).2.2 _ hm
        free := fun y p hp h1 h2 => mem_delO.2 ⟨hst.free y p hp h1 h2, h2⟩
        rest := fun y q hq h1 h2 h3 h4 => hst.rest y q (mem_delO.1 hq).1 h1 h2 h3 h4 }
end
end Go.Proofs.YthifdofdoeaemaaGreatDoor.Wk
end
section
namespace Go.Proofs.YthifdofdoeaemaaGreatDoor.Wk
open Go.RowKit Go.Proofs.YthifdofdoeaemaaGreatDoorW.PrintWords Go.Proofs.YthifdofdoeaemaaGreatDoorW.PrintLast Go.Proofs.YthifdofdoeaemaaGreatDoorW.PrintMore
attribute [local go_sem] max2_int min2_int max_two min_two max_three min_three max_four min_four
set_option linter.unusedVariables false
set_option linter.unusedSimpArgs false
section
open Go.RowKit Go.Lib Go.Maps
theorem parseL_good : ∀ (ps acc l : List ByteArray), parseL acc ps = .ok l → (∀ x ∈ acc, goodName x = true) → ∀ x ∈ l, goodName x = true
  | [], acc, l, h, ha => by cases h; exact ha
  | p :: ps, acc, l, h, ha => by
    unfold parseL at h
    cases hp : parseStep acc p with
    | error e => rw [hp] at h; cases h
    | ok a =>
      rw [hp] at h
      refine parseL_good ps a l h ?_
      unfold parseStep at hp
      split at hp
      · cases hp; exact ha
      · split at hp
        · cases hp; exact ha
        · split at hp
          · cases hp
          · rename_i hg
            split at hp
            · cases hp
            · cases hp
              intro x hx
              rcases List.mem_append.1 hx with hx | hx
              · exact ha x hx
              · obtain rfl := List.mem_singleton.1 hx
                simpa using hg
theorem parseP_good (s : ByteArray) : ∀ x ∈ (parseP s).1, goodName x = true := by
  unfold parseP
  cases h : parseF s with
  | error p => simp
  | ok l =>
    unfold parseF at h
    split at h
    · cases h
    · split at h
      · cases h
      · exact parseL_good _ _ _ h (by simp)
def WOk (G : GS) (soft : Nat) (r : Int × Int × Nat) : Prop := soft ≤ r.2.2 ∧ r.2.2 ≤ 8 ∧ (r.2.1 = 0 → ∃ o, (r.1, o) ∈ G.objs) ∧ (r.2.1 ≠ 0 → r.1 = 0)
theorem walkStep_ok {G : GS} (h : Ok G) (n : Nat) (rec : List ByteArray → Nat → Option (Int × Int × Nat)) (hrec : ∀ names soft, soft ≤ 8 → 9 ≤ n + soft → ∃ r, rec names soft = some r ∧ WOk G soft r) :
    ∀ (names : List ByteArray) (id : Int) (o : GO) (soft : Nat), (id, o) ∈ G.objs → soft ≤ 8 → 9 ≤ n + 1 + soft → ∃ r, walkStep G rec names id soft = some r ∧ WOk G soft r
  | [], id, o, soft, ho, hs, hn => ⟨_, rfl, Nat.le_refl _, hs, fun _ => ⟨o, ho⟩, fun h => absurd rfl h⟩
  | x :: xs, id, o, soft, ho, hs, hn => by
    unfold walkStep
    rw [h.obj ho]
    simp only
    by_cases hk : o.kind = 1
    rotate_left
    · rw [if_neg hk]; exact ⟨_, rfl, Nat.le_refl _, hs, fun h => (by cases h), fun _ => rfl⟩
    rw [if_pos hk]
    cases hl : lnk o.links x with
    | none => exact ⟨_, rfl, Nat.le_refl _, hs, fun h => (by cases h), fun _ => rfl⟩
    | some k =>
      simp only
      by_cases h0 : 0 < k.2.1
      · rw [if_pos h0]
        obtain ⟨t, ht⟩ : ∃ t, (k.2.1, t) ∈ G.objs := by
          rcases (h.lk _ ho k (lnk_mem hl).1).2 with h1 | h1
          · omega
          · exact h1.2.2
        exact walkStep_ok h n rec hrec xs k.2.1 t soft ht hs hn
      · rw [if_neg h0]
        by_cases h8 : soft = 8
        · rw [if_pos h8]; exact ⟨_, rfl, Nat.le_refl _, hs, fun h => (by cases h), fun _ => rfl⟩
        · rw [if_neg h8]
          obtain ⟨r, hr, w1, w2, w3, w4⟩ := hrec (parseP k.2.2).1 (soft + 1) (by omega) (by omega)
          rw [hr]
          simp only
          by_cases he : r.2.1 = 0
          · rw [if_pos he]
            obtain ⟨t, ht⟩ := w3 he
            obtain ⟨r', hr', v1, v2, v3⟩ := walkStep_ok h n rec hrec xs r.1 t r.2.2 ht w2 (by omega)
            exact ⟨r', hr', by omega, v2, v3⟩
          · rw [if_neg he]
            exact ⟨_, rfl, by simp only; omega, w2, fun h => absurd h he, fun _ => rfl⟩
theorem walkG_ok {G : GS} (h : Ok G) : ∀ (n : Nat) (names : List ByteArray) (soft : Nat), soft ≤ 8 → 9 ≤ n + soft → ∃ r, walkG G n names soft = some r ∧ WOk G soft r
  | 0, names, soft, h1, h2 => absurd h2 (by omega)
  | n + 1, names, soft, h1, h2 => by
    obtain ⟨o, ho, -⟩ := h.root
    exact walkStep_ok h n (walkG G n) (fun a b c d => walkG_ok h n a b c d) names 1 o soft ho h1 h2
theorem find_ok {G : GS} (h : Ok G) (p : ByteArray) : ∃ r, findG G p = some r ∧ (r.2 = 0 → ∃ o, (r.1, o) ∈ G.objs) ∧ (r.2 ≠ 0 → r.1 = 0) := by
  unfold findG
  simp only
  split
  · obtain ⟨r, hr, -, -, w3, w4⟩ := walkG_ok h 9 (parseP p).1 0 (by omega) (by omega)
    rw [hr]
    exact ⟨_, rfl, w3, w4⟩
  · rename_i he
    exact ⟨_, rfl, fun h => absurd h he, fun _ => rfl⟩
theorem place_ok {G : GS} (h : Ok G) (p : ByteArray) (bare : Int) (hb : bare ≠ 0) : ∃ r, placeG G p bare = some r ∧ (r.2.2 = 0 → ∃ o, (r.1, o) ∈ G.objs ∧ o.kind = 1 ∧ goodName r.2.1 = true) := by
  unfold placeG
  simp only
  split
  · split
    · exact ⟨_, rfl, fun h => absurd h hb⟩
    · rename_i hne
      obtain ⟨r, hr, -, -, w3, w4⟩ := walkG_ok h 9 ((parseP p).1.take ((parseP p).1.length - 1)) 0 (by omega) (by omega)
      rw [hr]
      simp only
      split
      · rename_i he
        obtain ⟨o, ho⟩ := w3 he
        rw [h.obj ho]
        simp only
        split
        · rename_i hk
          refine ⟨_, rfl, fun _ => ⟨o, ho, hk, ?_⟩⟩
          have hlt : (parseP p).1.length - 1 < (parseP p).1.length := by omega
          have : rdOf ByteArray.empty (parseP p).1 (((parseP p).1.length : Int) - 1) = (parseP p).1[(parseP p).1.length - 1] := by
            rw [show ((parseP p).1.length : Int) - 1 = (((parseP p).1.length - 1 : Nat) : Int) by omega]
            simp [rdOf, List.getD_eq_getElem?_getD, List.getElem?_eq_getElem hlt]
          rw [this]
          exact parseP_good p _ (List.getElem_mem _)
        · exact ⟨_, rfl, fun h => (by cases h)⟩
      · rename_i he
        exact ⟨_, rfl, fun h => absurd h he⟩
  · rename_i he
    exact ⟨_, rfl, fun h => absurd h he⟩
theorem room_ok {G : GS} (h : Ok G) (p : ByteArray) : ∃ r, roomG G p = some r ∧ (r.2.2 = 0 → ∃ o, (r.1, o) ∈ G.objs ∧ o.kind = 1 ∧ goodName r.2.1 = true ∧ lnk o.links r.2.1 = none ∧ G.count < 256) := by
  unfold roomG
  obtain ⟨q, hq, w⟩ := place_ok h p 11 (by decide)
  rw [hq]
  simp only
  split
  · rename_i he
    obtain ⟨o, ho, hk, hg⟩ := w he
    rw [h.obj ho]
    simp only
    split
    · exact ⟨_, rfl, fun h => (by cases h)⟩
    · rename_i hn
      split
      · exact ⟨_, rfl, fun h => (by cases h)⟩
      · rename_i hc
        refine ⟨_, rfl, fun _ => ⟨o, ho, hk, hg, ?_, ?_⟩⟩
        · cases e : lnk o.links q.2.1 with
          | none => rfl
          | some k => rw [e] at hn; exact absurd rfl hn
        · have := h.count; have := h.links; omega
  · rename_i he
    exact ⟨_, rfl, fun h => absurd h he⟩
def Rest (G : GS) : Prop := ∀ x ∈ G.objs, x.1 = 1 ∨ 0 < x.2.leads ∨ 0 < x.2.held
theorem put_rest {G : GS} (hr : Rest G) (id : Int) (x : Lk) : Rest (put2 G id x) := by
  intro y hy
  obtain ⟨z, hz, e1, -, e3, -, e5⟩ := put2_mem hy
  rw [e1, e3, e5]
  have := hr z hz
  split <;> omega
theorem soft_ok {G : GS} (h : Ok G) (p t : ByteArray) : ∃ e G2, softG G p t = some (e, G2) ∧ ((e ≠ 0 ∧ G2 = G) ∨ (e = 0 ∧ ∃ id nm o, roomG G p = some (id, nm, 0) ∧ (id, o) ∈ G.objs ∧ o.kind = 1 ∧ lnk o.links nm = none ∧ G.count < 256 ∧ (parseP t).2.2 = 0 ∧ G2 = put2 G id (nm, 0, t) ∧ Ok G2)) := by
  unfold softG
  simp only
  split
  · rename_i ht
    obtain ⟨r, hr, w⟩ := room_ok h p
    rw [hr]
    simp only
    split
    · rename_i he
      obtain ⟨o, ho, hk, hg, hl, hc⟩ := w he
      rw [put_some h ho (x := (r.2.1, 0, t)) (.inl rfl)]
      refine ⟨_, _, rfl, .inr ⟨rfl, r.1, r.2.1, o, ?_, ho, hk, hl, hc, ht, rfl, put_ok h ho hk hl ⟨hg, .inl ⟨rfl, ht⟩⟩ hc ?_⟩⟩
      · rw [← he]
      · exact fun t ht => absurd rfl (no_zero h ht)
    · rename_i he
      exact ⟨_, _, rfl, .inl ⟨he, rfl⟩⟩
  · rename_i he
    exact ⟨_, _, rfl, .inl ⟨he, rfl⟩⟩
theorem link_ok {G : GS} (h : Ok G) (p t : ByteArray) : ∃ e G2, linkG G p t = some (e, G2) ∧ ((e ≠ 0 ∧ G2 = G) ∨ (e = 0 ∧ ∃ id nm o tid x, roomG G p = some (id, nm, 0) ∧ (id, o) ∈ G.objs ∧ o.kind = 1 ∧ lnk o.links nm = none ∧ G.count < 256 ∧ findG G t = some (tid, 0) ∧ (tid, x) ∈ G.objs ∧ x.kind ≠ 1 ∧ G2 = put2 G id (nm, tid, ⟨#[]⟩) ∧ Ok G2)) := by
  unfold linkG
  obtain ⟨f, hf, wf, -⟩ := find_ok h t
  rw [hf]
  simp only
  split
  · rename_i hf0
    obtain ⟨x, hx⟩ := wf hf0
    rw [h.obj hx]
    simp only
    split
    · exact ⟨_, _, rfl, .inl ⟨by decide, rfl⟩⟩
    · rename_i hk1
      obtain ⟨r, hr, w⟩ := room_ok h p
      rw [hr]
      simp only
      split
      · rename_i he
        obtain ⟨o, ho, hk, hg, hl, hc⟩ := w he
        have h2 : 2 ≤ f.1 := by
          have h1 := (h.ids _ hx).1
          simp only at h1
          by_cases e : f.1 = 1
          · obtain ⟨r0, hr0, hk0⟩ := h.root
            rw [e] at hx
            rw [asc_uniq h.asc hr0 hx] at hk0
            exact absurd hk0 hk1
          · omega
        rw [put_some h ho (x := (r.2.1, f.1, ⟨#[]⟩)) (.inr ⟨by simp only; omega, x, hx⟩)]
        refine ⟨_, _, rfl, .inr ⟨rfl, r.1, r.2.1, o, f.1, x, ?_, ho, hk, hl, hc, ?_, hx, hk1, rfl, put_ok h ho hk hl ⟨hg, .inr ⟨h2, rfl, x, hx⟩⟩ hc ?_⟩⟩
        · rw [← he]
        · rw [← hf0]
        · intro y hy hy1
          rw [asc_uniq h.asc hy hx] at hy1
          exact absurd hy1 hk1
      · rename_i he
        exact ⟨_, _, rfl, .inl ⟨he, rfl⟩⟩
  · rename_i hf0
    exact ⟨_, _, rfl, .inl ⟨hf0, rfl⟩⟩
def newObj (G : GS) (kind : Int) : GS := { G with next := G.next + 1, objs := putO (G.next, newO kind) G.objs }
theorem add_ok {G : GS} (h : Ok G) (hn : G.next < 4611686018427387904) (p : ByteArray) (kind : Int) : ∃ id e G2, addG G p kind = some (id, e, G2) ∧ ((e ≠ 0 ∧ id = 0 ∧ G2 = G) ∨ (e = 0 ∧ id = G.next ∧ (kind = 1 ∨ kind = 2) ∧ G.objs.length < 128 ∧ ∃ gid nm o, roomG G p = some (gid, nm, 0) ∧ (gid, o) ∈ G.objs ∧ o.kind = 1 ∧ lnk o.links nm = none ∧ G.count < 256 ∧ G2 = put2 (newObj G kind) gid (nm, G.next, ⟨#[]⟩) ∧ Ok (newObj G kind) ∧ Ok G2)) := by
  unfold addG
  split
  · rename_i hkd
    obtain ⟨r, hr, w⟩ := room_ok h p
    rw [hr]
    simp only
    by_cases he : r.2.2 = 0
    · by_cases hs : G.objs.length = 128
      · rw [show (if r.2.2 = 0 ∧ G.objs.length = 128 then (7 : Int) else r.2.2) = 7 from if_pos ⟨he, hs⟩, if_neg (show ¬ (7 : Int) = 0 by decide)]
        exact ⟨_, _, _, rfl, .inl ⟨by decide, rfl, rfl⟩⟩
      · rw [show (if r.2.2 = 0 ∧ G.objs.length = 128 then (7 : Int) else r.2.2) = r.2.2 from if_neg (fun a => hs a.2), if_pos he]
        obtain ⟨o, ho, hk, hg, hl, hc⟩ := w he
        have hsz := h.size
        have hN := new_ok h (by omega) kind hkd
        have hfr := fresh h
        have h1 : 1 < G.next := by obtain ⟨q, hq, -⟩ := h.root; have := h.ids _ hq; simp only at this; omega
        rw [if_neg (by rw [hfr]; unfold bound; simp; omega)]
        have hmem : ∀ {y}, y ∈ G.objs → y ∈ putO (G.next, newO kind) G.objs := fun hy => mem_putO.2 (.inr ⟨hy, at_none hfr hy⟩)
        have hme : (G.next, newO kind) ∈ putO (G.next, newO kind) G.objs := mem_putO.2 (.inl rfl)
        rw [put_some hN (hmem ho) (x := (r.2.1, G.next, ⟨#[]⟩)) (.inr ⟨by simp only; omega, _, hme⟩)]
        refine ⟨_, _, _, rfl, .inr ⟨rfl, rfl, hkd, by omega, r.1, r.2.1, o, ?_, ho, hk, hl, hc, rfl, hN, put_ok hN (hmem ho) hk hl ⟨hg, .inr ⟨by show 2 ≤ G.next; omega, rfl, _, hme⟩⟩ hc ?_⟩⟩
        · rw [← he]
        · intro t ht _
          rw [asc_uniq hN.asc ht hme]
          rfl
    · rw [show (if r.2.2 = 0 ∧ G.objs.length = 128 then (7 : Int) else r.2.2) = r.2.2 from if_neg (fun a => he a.1), if_neg he]
      exact ⟨_, _, _, rfl, .inl ⟨he, rfl, rfl⟩⟩
  · exact ⟨_, _, _, rfl, .inl ⟨by decide, rfl, rfl⟩⟩
theorem unlink_ok {G : GS} (h : Ok G) (n : Nat) (hn : 257 ≤ n) (p : ByteArray) : ∃ r e G2, unlinkG n G p = some (r, e, G2) ∧ ((e ≠ 0 ∧ r = [] ∧ G2 = G) ∨ (e = 0 ∧ ∃ id nm o k c, placeG G p 2 = some (id, nm, 0) ∧ (id, o) ∈ G.objs ∧ k ∈ o.links ∧ k.1 = nm ∧ r = sortI c ∧
    ((k.2.1 = 0 ∧ c = [] ∧ G2 = cut2 G id k) ∨ (k.2.1 ≠ 0 ∧ (∃ t, (k.2.1, t) ∈ G.objs) ∧ sweepG n (cut2 G id k) k.2.1 = some (c, G2) ∧ Step k.2.1 (cut2 G id k) c G2 ∧ Clean k.2.1 (cut2 G id k) G2)))) := by
  unfold unlinkG
  obtain ⟨q, hq, w⟩ := place_ok h p 2 (by decide)
  rw [hq]
  simp only
  split
  · rename_i he
    obtain ⟨o, ho, hk, hg⟩ := w he
    rw [h.obj ho]
    simp only
    cases hl : lnk o.links q.2.1 with
    | none => exact ⟨_, _, _, rfl, .inl ⟨by decide, rfl, rfl⟩⟩
    | some k =>
      simp only [Option.isSome_some, if_true]
      obtain ⟨hkm, hkn⟩ := lnk_mem hl
      rw [← hkn, cut_eq _ h ho hkm]
      by_cases h0 : k.2.1 = 0
      · rw [if_pos h0]
        refine ⟨_, _, _, rfl, .inr ⟨rfl, q.1, q.2.1, o, k, [], ?_, ho, hkm, hkn, rfl, .inl ⟨h0, rfl, rfl⟩⟩⟩
        rw [← he]
      · rw [if_neg h0]
        obtain ⟨t, ht⟩ : ∃ t, (k.2.1, t) ∈ G.objs := by
          rcases (h.lk _ ho k hkm).2 with h1 | h1
          · exact absurd h1.1 h0
          · exact h1.2.2
        obtain ⟨t2, ht2, -⟩ := cut2_of (id := q.1) (x := k) ht
        obtain ⟨c, G2, hc, hst, hcl⟩ := sweep_ok n (cut2 G q.1 k) k.2.1 t2 (cut_ok h ho hkm) ht2 (by have := cut2_len h ho hkm; have := h.links; omega)
        rw [hc]
        have hlen : c.length ≤ 128 := by have := hst.size; rw [cut2_objs, length_setO, length_setO] at this; have := h.size; omega
        simp only
        rw [if_pos (by unfold bound; omega)]
        refine ⟨_, _, _, rfl, .inr ⟨rfl, q.1, q.2.1, o, k, c, ?_, ho, hkm, hkn, rfl, .inr ⟨h0, ⟨t, ht⟩, hc, hst, hcl⟩⟩⟩
        rw [← he]
  · rename_i he
    exact ⟨_, _, _, rfl, .inl ⟨he, rfl, rfl⟩⟩
end
end Go.Proofs.YthifdofdoeaemaaGreatDoor.Wk
end
section
namespace Go.Proofs.YthifdofdoeaemaaGreatDoor.Wk
open Go.RowKit Go.Proofs.YthifdofdoeaemaaGreatDoorW.PrintWords Go.Proofs.YthifdofdoeaemaaGreatDoorW.PrintLast Go.Proofs.YthifdofdoeaemaaGreatDoorW.PrintMore
attribute [local go_sem] max2_int min2_int max_two min_two max_three min_three max_four min_four
set_option linter.unusedVariables false
set_option linter.unusedSimpArgs false
section
open Go.RowKit Go.Lib Go.Maps
structure Play (m : Nat) (G : GS) : Prop where
  ok : Ok G
  rest : Rest G
  free : ∀ x ∈ G.objs, x.2.held = 0
  next : G.next ≤ (m : Int) + 2
theorem play_new : Play 0 newG where
  ok := new_ok0
  rest := fun x hx => by obtain rfl := List.mem_singleton.1 hx; exact .inl rfl
  free := fun x hx => by obtain rfl := List.mem_singleton.1 hx; rfl
  next := by decide
theorem Play.mono {m n : Nat} {G : GS} (h : Play m G) (hn : m ≤ n) : Play n G := ⟨h.ok, h.rest, h.free, by have := h.next; omega⟩
theorem add_rest {G : GS} (hr : Rest G) (kind id : Int) (nm : ByteArray) : Rest (put2 (newObj G kind) id (nm, G.next, ⟨#[]⟩)) := by
  intro y hy
  obtain ⟨z, hz, e1, -, e3, -, e5⟩ := put2_mem hy
  rw [e1, e3, e5]
  rcases mem_putO.1 hz with rfl | ⟨hz, hne⟩
  · rw [if_pos rfl]
    exact .inr (.inl (by show (0 : Int) < 0 + 1; decide))
  · rw [if_neg hne]
    exact hr z hz
theorem asc_cut {G : GS} (h : Ok G) (id : Int) (k : Lk) : Asc (cut2 G id k).objs := by
  rw [cut2_objs]
  exact asc_set (asc_set h.asc _ _) _ _
theorem unlink_rest {G G2 : GS} {id : Int} {k : Lk} {c : List Int} (h : Ok G) (hr : Rest G) (hs : Step k.2.1 (cut2 G id k) c G2) (hc : Clean k.2.1 (cut2 G id k) G2) : Rest G2 := by
  intro y hy
  obtain ⟨yi, q⟩ := y
  simp only
  have hql := hs.ok.lead hy
  have hqh := hs.ok.held _ hy
  simp only at hql hqh
  by_cases h1 : yi = 1
  · exact .inl h1
  by_cases h2 : 0 < q.leads
  · exact .inr (.inl h2)
  by_cases h3 : 0 < q.held
  · exact .inr (.inr h3)
  exfalso
  by_cases ht : yi = k.2.1
  · subst ht
    exact (hc q hy).2 ⟨h1, by omega, by omega⟩
  · obtain ⟨p, hp, e⟩ := hs.rest yi q hy (by omega) (by omega) h1 ht
    obtain ⟨p', hp', e1, e2, e3⟩ := hs.back yi q hy
    obtain rfl := asc_uniq (asc_cut h _ _) hp hp'
    obtain ⟨z, hz, f1, f2, -, -, f⟩ := cut2_back hp
    have := hr _ hz
    simp only at this
    have := f ht
    omega
abbrev ActD := Int × ByteArray × ByteArray × Int
def actG (G : GS) (a : ActD) : Option GS :=
  if a.1 = 0 then (addG G a.2.1 1).map (·.2.2) else if a.1 = 1 then (addG G a.2.1 2).map (·.2.2) else if a.1 = 2 then (linkG G a.2.1 a.2.2.1).map (·.2)
  else if a.1 = 3 then (softG G a.2.1 a.2.2.1).map (·.2) else if a.1 = 4 then (unlinkG 300 G a.2.1).map (·.2.2) else some G
def playG (G : GS) : List ActD → Option GS
  | [] => some G
  | a :: l => (actG G a).bind (fun G2 => playG G2 l)
end
section
end
end Go.Proofs.YthifdofdoeaemaaGreatDoor.Wk
end
section
namespace Go.Proofs.YthifdofdoeaemaaGreatDoor.Wk
open Go.RowKit Go.Proofs.YthifdofdoeaemaaGreatDoorW.PrintWords Go.Proofs.YthifdofdoeaemaaGreatDoorW.PrintLast Go.Proofs.YthifdofdoeaemaaGreatDoorW.PrintMore
attribute [local go_sem] max2_int min2_int max_two min_two max_three min_three max_four min_four
set_option linter.unusedVariables false
set_option linter.unusedSimpArgs false
section
open Go.RowKit Go.Lib Go.Maps Go.Proofs.YthifdofdoeaemaaGreatDoorQ
attribute [local go_sem] Oper.semAt_some
def actC (x : ActD) : List Value := [.int .i64 x.1, .string x.2.1, .string x.2.2.1, .int .i64 x.2.2.2]
def ActRow (W : World) (A : Option Addr) (l : List ActD) : Prop := 0 < l.length → ∃ b o, A = some ⟨b, o, none⟩ ∧ b < W.heap.size ∧ ∀ j x, l[j]? = some x → W.rangeAt b (o + j * 4) (actC x)
theorem ActRow.below {w W : World} {A : Option Addr} {l : List ActD} (h : ActRow w A l) (hb : Below w.heap.size w W) : ActRow W A l := fun h0 => by
  obtain ⟨b, o, h1, h2, h3⟩ := h h0
  refine ⟨b, o, h1, Nat.lt_of_lt_of_le h2 hb.size, fun j x hj i v hv => ?_⟩
  exact (hb.cell (p := ⟨b, o + j * 4 + i, none⟩) h2).trans (h3 j x hj i v hv)
end
end Go.Proofs.YthifdofdoeaemaaGreatDoor.Wk
end
section
namespace Go.Proofs.YthifdofdoeaemaaGreatDoor
namespace Wk
open Go.RowKit Go.ChangeShapes Go.WideShapes Go.Proofs.YthifdofdoeaemaaGreatDoorW.PrintWords Go.Proofs.YthifdofdoeaemaaGreatDoorW.PrintLast Go.Proofs.YthifdofdoeaemaaGreatDoorW.PrintMore
variable {H : Type} {enc : TypeId × Value → H} {W : World} {base : Nat} {v : Value} {d : DataW H} {p : List MemPlace}
set_option linter.unusedVariables false
set_option maxRecDepth 100000 in
theorem act_cells_wf {n : Nat} {cs : List Value} {y : DataW H × List MemPlace} (h : DataW.trod enc Tryz.prog W 0 (fun _ => true) true n 69 cs = some y) : ∃ x : ActD, cs = actC x ∧ (Lit.int .i64 x.2.2.2).wf = true := by
  obtain ⟨xs, m, _, _, hl, hxs, hf⟩ := DataW.trod_struct Tryz.underlying69 h
  have c69 : Tryz.prog.cellsOf 69 = 4 := by kernel_rfl
  have c9 : Tryz.prog.cellsOf 9 = 1 := by kernel_rfl
  have c3 : Tryz.prog.cellsOf 3 = 1 := by kernel_rfl
  rw [c69] at hl
  match cs, hl, xs, hxs with
  | [u0, u1, u2, u3], _, [x0, x1, x2, x3], _ =>
    have t0 : DataW.trod enc Tryz.prog W 0 (fun _ => true) true m 3 [u0] = some x0 := by simpa [c3] using hf 0 _ rfl
    have t1 : DataW.trod enc Tryz.prog W 0 (fun _ => true) true m 9 [u1] = some x1 := by simpa [c9] using hf 1 _ rfl
    have t2 : DataW.trod enc Tryz.prog W 0 (fun _ => true) true m 9 [u2] = some x2 := by simpa [c9] using hf 2 _ rfl
    have t3 : DataW.trod enc Tryz.prog W 0 (fun _ => true) true m 3 [u3] = some x3 := by simpa [c3] using hf 3 _ rfl
    obtain ⟨k, e0, _, wk⟩ := DataW.trod_int Tryz.underlying3 t0
    obtain ⟨a, e1, _⟩ := DataW.trod_string Tryz.underlying9 t1
    obtain ⟨b, e2, _⟩ := DataW.trod_string Tryz.underlying9 t2
    obtain ⟨id, e3, _, wi⟩ := DataW.trod_int Tryz.underlying3 t3
    obtain rfl : u0 = _ := by simpa using e0
    obtain rfl : u1 = _ := by simpa using e1
    obtain rfl : u2 = _ := by simpa using e2
    obtain rfl : u3 = _ := by simpa using e3
    exact ⟨(k, a, b, id), rfl, wi⟩
set_option maxRecDepth 100000 in
theorem open_acts_wf (hval : Value.okWide Tryz.prog W .any base 36 v) (h : DataW.Trod enc Tryz.prog W 0 (fun _ => true) true 36 v d p) :
    ∃ A c acts, v = .slice A (List.length acts) c ∧ acts.length ≤ c ∧ ActRow W A acts ∧ ∀ x ∈ acts, (Lit.int .i64 x.2.2.2).wf = true := by
  obtain ⟨A, n, c, rfl⟩ := okWide_slice Tryz.underlying36 hval
  obtain ⟨fuel, hf⟩ := h
  rcases Go.Deep.open_slice Tryz.underlying36 hf with ⟨hcs, _⟩ | ⟨a, len, cap, m, n', D, Pl, hcs, hb, hl, hm, hmm, hx, hel⟩
  · simp [Value.cells] at hcs
    obtain ⟨rfl, rfl, rfl⟩ := hcs
    exact ⟨none, 0, [], rfl, Nat.le_refl _, fun h => absurd h (by simp), by simp⟩
  · simp [Value.cells] at hcs
    obtain ⟨rfl, rfl, rfl⟩ := hcs
    have c69 : Tryz.prog.cellsOf 69 = 4 := by kernel_rfl
    have hlm : n ≤ m := by rw [hmm]; simp; exact hl
    have each : ∀ i, i < n → ∃ x : ActD, (∀ j v, (actC x)[j]? = some v → W.cell? ((a.add (i * 4)).add j) = some v) ∧ (Lit.int .i64 x.2.2.2).wf = true := by
      intro i hi
      obtain ⟨cs', h1, h2⟩ := hel i (by omega)
      rw [c69] at h1
      obtain ⟨_, hlen, hcell⟩ := World.cells?_some h1
      obtain ⟨x, rfl, hx9⟩ := act_cells_wf h2
      refine ⟨x, fun j v hj => ?_, hx9⟩
      rw [hcell j (by have := (List.getElem?_eq_some_iff.1 hj).1; simpa [actC] using this)]
      exact hj
    obtain ⟨q, hq⟩ := Go.Deep.choose_lt each
    refine ⟨some a, c, (List.range n).map q, by simp, by simpa using hl, fun h0 => ?_, fun x hx => ?_⟩
    rotate_left
    · obtain ⟨j, hj, rfl⟩ := List.mem_map.1 hx
      exact (hq j (by simpa using hj)).2
    have hn0 : 0 < n := by simpa using h0
    have ha0 := (hq 0 hn0).1 0 _ rfl
    have haz : (a.add (0 * 4)).add 0 = a := by simp [Addr.add]
    rw [haz] at ha0
    have hap := addr_plain ha0
    refine ⟨a.block, a.off, by rw [← hap], World.block_lt_of_cell? W a ha0, fun j x hj i v hv => ?_⟩
    have hjn : j < n := by have := (List.getElem?_eq_some_iff.1 hj).1; simpa using this
    have hxq : q j = x := by simpa [hjn] using hj
    have := (hq j hjn).1 i v (by rw [hxq]; exact hv)
    rw [hap] at this
    simpa [Addr.add_lit] using this
end Wk
end Go.Proofs.YthifdofdoeaemaaGreatDoor
end
section
namespace Go.Proofs.YthifdofdoeaemaaGreatDoor.Wk
open Go.RowKit Go.Proofs.YthifdofdoeaemaaGreatDoorW.PrintWords Go.Proofs.YthifdofdoeaemaaGreatDoorW.PrintLast Go.Proofs.YthifdofdoeaemaaGreatDoorW.PrintMore
attribute [local go_sem] max2_int min2_int max_two min_two max_three min_three max_four min_four
set_option linter.unusedVariables false
set_option linter.unusedSimpArgs false
section
open Go.RowKit Go.Lib Go.Maps Go.Proofs.YthifdofdoeaemaaGreatDoorQ
attribute [local go_sem] Oper.semAt_some
def cells3 (l : List Lk) : List Value := l.flatMap (fun x => [.string x.1, .int .i64 x.2.1, .string x.2.2])
theorem cells3_snoc (l : List Lk) (x : Lk) : cells3 (l ++ [x]) = cells3 l ++ [.string x.1, .int .i64 x.2.1, .string x.2.2] := by simp [cells3]
theorem cells3_len : ∀ l : List Lk, (cells3 l).length = l.length * 3
  | [] => rfl
  | a :: t => by
    have := cells3_len t
    unfold cells3 at this ⊢
    rw [List.flatMap_cons, List.length_append, this, List.length_cons]
    simp
    omega
theorem own_names {w : World} {b n : Nat} {l : List Lk} (h : w.ownsMap Tryz.prog 9 readL b n (.map (l.map encL))) : Names l := by
  have := own_rising (string_keyed Tryz.underlying9) h
  rw [List.pairwise_map] at this
  exact this
set_option maxHeartbeats 8000000 in
set_option maxRecDepth 100000 in
theorem list_calls (B : GB) (G : GS) (id : Int) (o : GO) (w : World) (hG : GraphAt w B G) (ho : G.at id = some o) (hb : o.links.length ≤ bound) :
    Calls Tryz.prog 47 #[.pointer (some ⟨B.ob id, 0, none⟩)] w fun e w' => ∃ v, e = .returned v ∧ w'.ownsRow w.heap.size 42 3 v o.links.length (cells3 o.links) ∧ Below w.heap.size w w' := by
  have HG := Aside0.mk hG
  have HO := Aside0.mk ho
  have o1 : w.cell? ⟨B.ob id, 1, none⟩ = some (.map (some (B.lb id))) := (hG.obj ho).c1
  have HOB := Aside0.mk (hG.obj ho).2
  clear hG ho
  go_enter Tryz.func47, Tryz.ntmps47
  go_wp2_with (first
    | (go_at_call 78; refine (keysL_calls _ _).mono ?_; rintro e_ w2 ⟨rfl, rfl⟩)
    | (go_at_call 77; refine (sortedL_calls (B.lb id) _ o.links _ HOB.out hb).mono ?_; rintro e_ w3 ⟨v3, rfl, hrow3, hb3⟩; obtain ⟨A3, k3, rfl⟩ := own_slice hrow3; have HR3 := Aside0.mk hrow3; have HB3 := Aside0.mk hb3; clear hrow3 hb3))
  have hsz3 : w.heap.size + 1 ≤ w3.heap.size := by have := HB3.out.size; simp only [World.size_alloc] at this; exact this
  have hbw : Below w.heap.size w w3 := (below_alloc (Below.refl _ _) _).trans (HB3.out.mono (by omega))
  have HBW := Aside0.mk hbw
  clear hbw
  obtain ⟨i0, hi0, hz0, hz1, hz2⟩ := info_parts (P := Tryz.prog) (e := 42) (z := .agg #[.string ⟨#[]⟩, .int .i64 0, .string ⟨#[]⟩]) (size := 3) (bytes := 40) (by kernel_rfl)
  have HIN := Aside0.mk hi0
  have HZ := Aside0.mk (And.intro hz0 (And.intro hz1 hz2))
  clear hi0 hz0 hz1 hz2 o1
  go_loopg [13, 3] o.links.length (fun kq v13 v3 W => ∃ (i : Nat), v13 = .int .i64 (i : Int) ∧ Aside0 (i ≤ o.links.length ∧ o.links.length - i ≤ kq) ∧ Aside0 (W.ownsRow w3.heap.size 42 3 v3 i (cells3 (o.links.take i))) ∧ Aside0 (Below w3.heap.size w3 W))
  case atStart => exact ⟨0, rfl, ⟨Nat.zero_le _, by omega⟩, ⟨World.ownsRow_nil _ _ _ _⟩, ⟨Below.refl _ _⟩⟩
  case round =>
    obtain ⟨i, rfl, HI, HOUT, HS⟩ := hrel
    have hszr : w3.heap.size ≤ wr.heap.size := HS.out.size
    by_cases hlt : i < o.links.length
    · obtain ⟨k, hk⟩ : ∃ k, o.links[i]'hlt = k := ⟨_, rfl⟩
      have hkm : k ∈ o.links := hk ▸ List.getElem_mem _
      obtain ⟨g3, hA, hg3, hc3⟩ := own_at HR3.out (i := i) hlt
      have hc3' : w3.cell? ⟨g3, i, none⟩ = some (.string k.1) := by rw [hc3]; simp [hlt, hk]
      have hg3l : g3 < w3.heap.size := World.block_lt_of_cell? w3 _ hc3'
      obtain ⟨ad, had⟩ : ∃ ad : Addr, ad = ⟨g3, 0, none⟩ := ⟨_, rfl⟩
      have hcell : wr.cell? (ad.add i) = some (.string k.1) := by rw [had, Addr.add_lit, Nat.zero_add]; exact (HS.out.cell (p := ⟨g3, i, none⟩) hg3l).trans hc3'
      rw [← had] at hA
      subst hA
      have hGr : GraphAt wr B G := HG.out.below (HBW.out.trans (HS.out.mono HBW.out.size))
      have o1 : wr.cell? ⟨B.ob id, 1, none⟩ = some (.map (some (B.lb id))) := (hGr.obj HO.out).c1
      have hlk := (hGr.obj HO.out).look2 k.1 (Tryz.zeroValue42 wr) (own_key HOB.out hkm)
      simp only [lnk_of_mem (own_names HOB.out) hkm] at hlk
      simp only [lnkV, Option.getD_some] at hlk
      have HK := Aside0.mk hk
      have p1 : (0 : Int) ≤ (i : Int) := Int.natCast_nonneg i
      have q1 : (i : Int) < (o.links.length : Int) := by omega
      have q2 : decide ((i : Int) < (o.links.length : Int)) = true := decide_eq_true q1
      have hw1 : wrap64 ((i : Int) + 1) = i + 1 := by unfold bound at hb; unfold wrap64; omega
      replace q1 := eq_true q1
      have HOWN : Aside0 (∀ ob, (wr.alloc ob).ownsRow w3.heap.size 42 3 u3 i (cells3 (o.links.take i))) := ⟨fun ob => row_same HOUT.out (SameOn.of_below (S := fun _ => True) (below_alloc (Below.refl _ _) ob)) (fun _ _ => trivial)⟩
      have HNEW : Aside0 ((wr.alloc (.cells #[.string k.1, .int .i64 k.2.1, .string k.2.2] 42 (0, 0))).ownsRow wr.heap.size 42 3 (.slice (some ⟨wr.heap.size, 0, none⟩) 1 1) 1 [.string k.1, .int .i64 k.2.1, .string k.2.2]) := ⟨⟨rfl, .inr ⟨_, 1, _, rfl, Nat.le_refl _, World.alloc_heap_new _ _, Nat.le_refl _, by decide, rfl, rfl⟩⟩⟩
      clear hc3 hc3' hg3l hg3 had hk hGr
      go_wp2_with (at_builtin; refine wpList_append_row _ rfl _ _ 38 rfl w3.heap.size wr.heap.size 42 i0 (.agg #[.string ⟨#[]⟩, .int .i64 0, .string ⟨#[]⟩]) 3 40 Tryz.underlying38 HIN.out HZ.out.1 HZ.out.2.1 HZ.out.2.2 rfl (by decide) u3 (.slice (some ⟨wr.heap.size, 0, none⟩) 1 1) i 1 _ _ rfl rfl (HOWN.out _) HNEW.out (by simp [Value.oneCell']) (by unfold bound at hb; unfold maxLen; omega) (by unfold bound at hb; omega) (by simp only [World.size_alloc]; omega) ?_; intro v5 w5 hown5 hgrow5 hat5; have HOWN5 := Aside0.mk hown5; have HGROW5 := Aside0.mk hgrow5; clear hown5 hgrow5 hat5)
      go_roundg (gk - 1)
      case measure => have := HI.out; omega
      case rel =>
        have h1 : ∀ ob, Below w3.heap.size w3 (wr.alloc ob) := fun ob => HS.out.trans ((below_alloc (Below.refl _ _) ob).mono hszr)
        refine ⟨i + 1, by rw [hw1]; rfl, ⟨by omega, by have := HI.out; omega⟩, ⟨?_⟩, ⟨(h1 _).grown HGROW5.out (by simp only [World.size_alloc]; omega) (own_base HOUT.out)⟩⟩
        rw [List.take_succ_eq_append_getElem hlt, HK.out, cells3_snoc]
        exact HOWN5.out
    · have hi : i = o.links.length := by have := HI.out; omega
      have q2 : decide ((i : Int) < (o.links.length : Int)) = false := decide_eq_false (by omega)
      have q1 : ((i : Int) < (o.links.length : Int)) = False := eq_false (by omega)
      go_wp2
      go_ret
      have hr := HOUT.out
      rw [List.take_of_length_le (by omega), hi] at hr
      exact ⟨_, rfl, hr.mono (by omega), HBW.out.trans (HS.out.mono HBW.out.size)⟩
set_option maxHeartbeats 8000000 in
set_option maxRecDepth 100000 in
theorem names_calls (B : GB) (G : GS) (p : ByteArray) (w : World) (hl : Lay w) (hG : GraphAt w B G) (l : List Lk) (e : Int) (h : namesG G p = some (l, e)) :
    Calls Tryz.prog 20 #[.pointer (some ⟨B.g, 0, none⟩), .string p] w fun ev w' => ∃ v, ev = .returned (.tuple #[v, .int .i64 e]) ∧ w'.ownsRow w.heap.size 42 3 v l.length (cells3 l) ∧ Below w.heap.size w w' := by
  have HL := Aside0.mk hl
  have HG := Aside0.mk hG
  unfold namesG at h
  clear hl hG
  cases hf : findG G p with
  | none => rw [hf] at h; cases h
  | some f =>
    obtain ⟨fid, fe⟩ := f
    rw [hf] at h
    simp only at h
    have HF := Aside0.mk hf
    clear hf
    by_cases he : fe = 0
    · subst he
      rw [if_pos rfl] at h
      cases ho : G.at fid with
      | none => rw [ho] at h; cases h
      | some x =>
        rw [ho] at h
        simp only at h
        have HO := Aside0.mk ho
        clear ho
        by_cases hk : x.kind = 1
        · rw [if_pos hk] at h
          by_cases hb : x.links.length ≤ bound
          rotate_left
          · rw [if_neg hb] at h; cases h
          rw [if_pos hb] at h
          obtain ⟨rfl, rfl⟩ : x.links = l ∧ (0 : Int) = e := by simpa using h
          have hkb : (x.kind != 1) = false := by simpa using hk
          have HB := Aside0.mk hb
          clear h hk hb
          go_enter Tryz.func20, Tryz.ntmps20
          go_wp2_with (first
            | (go_at_call 17; refine (find_calls B G p _ HL.out HG.out fid 0 HF.out).mono ?_; rintro e_ w1 ⟨rfl, hw1⟩; have HW1 := Aside0.mk hw1; have HG1 := Aside0.mk (HG.out.below hw1); have cg1 := HG1.out.c1; have co0 := (HG1.out.obj HO.out).c0; have hlk2 := HG1.out.lookAt HO.out; simp only [] at co0; clear hw1)
            | (go_at_call 47; refine (list_calls B G fid x _ HG1.out HO.out HB.out).mono ?_; rintro e_ w2 ⟨v2, rfl, hr2, hb2⟩; have HR2 := Aside0.mk hr2; have HB2 := Aside0.mk hb2; clear hr2 hb2))
          go_ret2
          exact ⟨_, rfl, HR2.out.mono HW1.out.size, HW1.out.trans (HB2.out.mono HW1.out.size)⟩
        · rw [if_neg hk] at h
          obtain ⟨rfl, rfl⟩ : ([] : List Lk) = l ∧ (12 : Int) = e := by simpa using h
          have hkb : (x.kind != 1) = true := by simpa using hk
          clear h hk
          go_enter Tryz.func20, Tryz.ntmps20
          go_wp2_with (first
            | (go_at_call 17; refine (find_calls B G p _ HL.out HG.out fid 0 HF.out).mono ?_; rintro e_ w1 ⟨rfl, hw1⟩; have HW1 := Aside0.mk hw1; have HG1 := Aside0.mk (HG.out.below hw1); have cg1 := HG1.out.c1; have co0 := (HG1.out.obj HO.out).c0; have hlk2 := HG1.out.lookAt HO.out; simp only [] at co0; clear hw1))
          go_ret2
          exact ⟨_, rfl, World.ownsRow_nil _ _ _ _, HW1.out⟩
    · rw [if_neg he] at h
      obtain ⟨rfl, rfl⟩ : ([] : List Lk) = l ∧ fe = e := by simpa using h
      have heb : (fe != 0) = true := by simpa using he
      clear h
      go_enter Tryz.func20, Tryz.ntmps20
      go_wp2_with (first
        | (go_at_call 17; refine (find_calls B G p _ HL.out HG.out fid fe HF.out).mono ?_; rintro e_ w1 ⟨rfl, hw1⟩; have HW1 := Aside0.mk hw1; clear hw1))
      go_ret2
      exact ⟨_, rfl, World.ownsRow_nil _ _ _ _, HW1.out⟩
end
end Go.Proofs.YthifdofdoeaemaaGreatDoor.Wk
end
section
namespace Go.Proofs.YthifdofdoeaemaaGreatDoor.Wk
open Go.RowKit Go.Proofs.YthifdofdoeaemaaGreatDoorW.PrintWords Go.Proofs.YthifdofdoeaemaaGreatDoorW.PrintLast Go.Proofs.YthifdofdoeaemaaGreatDoorW.PrintMore
attribute [local go_sem] max2_int min2_int max_two min_two max_three min_three max_four min_four
set_option linter.unusedVariables false
set_option linter.unusedSimpArgs false
section
open Go.RowKit Go.Lib Go.Maps Go.Proofs.YthifdofdoeaemaaGreatDoorQ
def TailAt (W : World) (base : Nat) (v : Value) (xs : List Int) : Prop := ∃ b off cap cs, v = .slice (some ⟨b, off, none⟩) xs.length cap ∧ base ≤ b ∧ xs.length ≤ cap ∧ cap ≤ maxLen ∧ W.heap[b]? = some (.cells cs 3 (0, 0)) ∧ off + cap ≤ cs.size ∧ ∀ j x, xs[j]? = some x → cs[off + j]? = some (.int .i64 x)
theorem TailAt.own {W : World} {base : Nat} {v : Value} {xs : List Int} (h : TailAt W base v xs) : ∃ b, v.ownBlock = some b ∧ base ≤ b ∧ b < W.heap.size := by
  obtain ⟨b, off, cap, cs, rfl, h1, h2, h3, h4, -⟩ := h
  refine ⟨b, rfl, h1, ?_⟩
  rcases Nat.lt_or_ge b W.heap.size with h | h
  · exact h
  · rw [Array.getElem?_eq_none h] at h4; cases h4
theorem TailAt.step {W W' : World} {base : Nat} {v : Value} {xs : List Int} (h : TailAt W base v xs) (hs : ∀ b, v.ownBlock = some b → W'.heap[b]? = W.heap[b]?) : TailAt W' base v xs := by
  obtain ⟨b, off, cap, cs, rfl, h1, h2, h3, h4, h5⟩ := h
  exact ⟨b, off, cap, cs, rfl, h1, h2, h3, (hs b rfl).trans h4, h5⟩
theorem TailAt.below {W W' : World} {base : Nat} {v : Value} {xs : List Int} (h : TailAt W base v xs) (hb : Below W.heap.size W W') : TailAt W' base v xs := h.step (fun b hb' => by
  obtain ⟨b', e, -, hl⟩ := h.own
  rw [e] at hb'
  cases hb'
  exact hb.block b hl)
theorem TailAt.head {W : World} {base : Nat} {v : Value} {x : Int} {xs : List Int} (h : TailAt W base v (x :: xs)) : ∃ b off cap, v = .slice (some ⟨b, off, none⟩) (xs.length + 1) cap ∧ xs.length + 1 ≤ cap ∧ W.cell? ⟨b, off, none⟩ = some (.int .i64 x) ∧ (TailAt W base (.slice (some ⟨b, off + 1, none⟩) xs.length (cap - 1)) xs ∧ (cap = 1 → TailAt W base (.slice (some ⟨b, off, none⟩) xs.length 0) xs)) := by
  obtain ⟨b, off, cap, cs, rfl, h1, h2, h3, h4, h5, h6⟩ := h
  simp only [List.length_cons] at h2 ⊢
  refine ⟨b, off, cap, rfl, h2, ?_, ⟨b, off + 1, cap - 1, cs, rfl, h1, by omega, by omega, h4, by omega, fun j y hj => ?_⟩, fun hc => ⟨b, off, 0, cs, rfl, h1, by omega, by omega, h4, by omega, fun j y hj => ?_⟩⟩
  · rw [cell_of_row W b off cs _ _ h4]
    exact h6 0 x rfl
  · rw [show off + 1 + j = off + (j + 1) by omega]
    exact h6 (j + 1) y hj
  · have := (List.getElem?_eq_some_iff.1 hj).1
    omega
theorem tail_lit (W : World) (x : Int) : TailAt (W.alloc (.cells #[.int .i64 x] 3 (0, 0))) W.heap.size (.slice (some ⟨W.heap.size, 0, none⟩) 1 1) [x] :=
  ⟨W.heap.size, 0, 1, _, rfl, Nat.le_refl _, by simp, by decide, World.alloc_heap_new _ _, by simp, fun j y hj => by
    match j, hj with
    | 0, hj => simpa using hj⟩
theorem TailAt.apart {W : World} {base : Nat} {v : Value} {xs : List Int} (h : TailAt W base v xs) {b1 n s1 : Nat} {e1 : TypeId} {u : Value} {ys : List Value} (hr : W.ownsRow b1 e1 s1 u n ys) (he : e1 ≠ 3) {k : Nat} (hk : v.ownBlock = some k) : u.ownBlock ≠ some k := by
  intro hu
  obtain ⟨b, off, cap, cs, rfl, -, -, -, h4, -⟩ := h
  obtain ⟨c1, q1⟩ := own_typed hr k hu
  cases hk
  rw [h4] at q1
  cases q1
  exact he rfl
theorem TailAt.append {P : Program} {W : World} {base : Nat} {v : Value} {xs : List Int} (h : TailAt W base v xs) (t ty : TypeId) (i : TypeInfo) (ht : P.underlying t = some (.slice 3)) (hi : P.info? 3 = some i) (hz : i.zero = some (.int .i64 0)) (h1 : i.size = 1) (h8 : i.bytes = 8)
    (hx : xs.length < 1000000) (x : Int) (ad : Addr) (c : Nat) (hc : W.cell? ad = some (.int .i64 x)) (hb : base ≤ W.heap.size) :
    ∃ v' W', (Builtin.append_ #[t, t] ty #[v, .slice (some ad) 1 c]).run P W = .ok v' W' ∧ TailAt W' base v' (xs ++ [x]) ∧ W.grownBy W' v.ownBlock := by
  obtain ⟨b, off, cap, cs, rfl, h2, h3, h4, h5, h6, h7⟩ := h
  have hsrc : Src P i.size t (.slice (some ad) 1 c) 1 [.int .i64 x] W := by
    rw [h1]
    refine Src.ofSlice W ht ad 1 c [.int .i64 x] rfl (fun j u hj => ?_) (by simp [Value.oneCell'])
    match j, hj with
    | 0, hj =>
      have : u = .int .i64 x := by simpa using hj.symm
      rw [this, show ad.add 0 = ad by simp [Addr.add], hc]
  have hbl : b < W.heap.size := by
    rcases Nat.lt_or_ge b W.heap.size with h | h
    · exact h
    · rw [Array.getElem?_eq_none h] at h5; cases h5
  by_cases hroom : xs.length + 1 ≤ cap
  · have hcell : (W.cell? ⟨b, off + xs.length * i.size, none⟩).isSome = true := by
      rw [h1, Nat.mul_one, cell_of_row W b _ cs _ _ h5, Array.getElem?_eq_getElem (by omega)]
      rfl
    have hrun := run_append_room_src (P := P) W t t ty 3 i ht hi b off xs.length cap _ 1 _ hsrc hroom (fun j hj => by
      obtain rfl : j = 0 := by simpa using hj
      exact hcell) (fun j hj => by
      unfold World.frozen?
      simp [h5])
    rw [h1, Nat.mul_one] at hrun
    refine ⟨_, _, hrun, ⟨b, off, cap, cs.setIfInBounds (off + xs.length) (.int .i64 x), by rw [List.length_append]; rfl, h2, by rw [List.length_append]; exact hroom, h4, blk_set h5 _ _, by rw [Array.size_setIfInBounds]; exact h6, fun j y hj => ?_⟩, ⟨rfl, rfl, rfl, by show _ ≤ (W.setCell _ _).heap.size; simp, fun k hk hne => Below.heap_setCell _ _ _ _ (fun e => hne (by rw [e]; rfl))⟩⟩
    by_cases hj2 : j < xs.length
    · rw [List.getElem?_append_left hj2] at hj
      rw [Array.getElem?_setIfInBounds_ne (by omega)]
      exact h7 j y hj
    · have hj3 : j = xs.length := by
        have := (List.getElem?_eq_some_iff.1 hj).1
        simp at this
        omega
      subst hj3
      rw [List.getElem?_append_right (Nat.le_refl _)] at hj
      have : x = y := by simpa using hj
      subst this
      rw [Array.getElem?_setIfInBounds_self_of_lt (by omega)]
  · have hold : (Builtin.firstCells i.size xs.length (.slice (some ⟨b, off, none⟩) xs.length cap)).run P W.drew = .ok (xs.map (Value.int .i64)).toArray W.drew := by
      refine run_firstCells_some (P := P) W.drew i.size xs.length _ _ _ _ (by rw [h1]; simp) (fun j u hj => ?_)
      rw [List.getElem?_map] at hj
      obtain ⟨y, hy, rfl⟩ := Option.map_eq_some_iff.1 hj
      rw [Addr.add_lit]
      show W.cell? _ = _
      rw [cell_of_row W b _ cs _ _ h5]
      exact h7 j y hy
    have hfit : Builtin.nextslicecap (xs.length + 1) cap * i.bytes ≤ 281474976710656 := growslice_fits (by omega) (by rw [h8]; omega)
    have hrun := run_append_grow_src (P := P) W t t ty 3 i _ ht hi hz (some ⟨b, off, none⟩) xs.length cap _ hold _ 1 _ hsrc (by omega) (by omega) hfit
    have hge := grownCap_ge W (xs.length + 1) cap 3
    have hcm := grownCap_le_maxLen W (xs.length + 1) cap 3 (by unfold maxLen; omega)
    refine ⟨_, _, hrun, ⟨W.heap.size, 0, _, _, by rw [List.length_append]; rfl, hb, by rw [List.length_append]; exact hge, hcm, World.alloc_heap_new W.drew _, ?_, fun j y hj => ?_⟩, ⟨rfl, rfl, rfl, by show _ ≤ (W.drew.alloc _).heap.size; simp, fun k hk _ => Below.heap_alloc W.drew _ k hk⟩⟩
    · rw [Array.size_append, size_zeroCells]
      simp [Value.cells]
      omega
    · rw [Nat.zero_add, Array.getElem?_append_left (by have := (List.getElem?_eq_some_iff.1 hj).1; simpa using this)]
      rw [List.getElem?_toArray, show xs.map (Value.int .i64) ++ [Value.int .i64 x] = (xs ++ [x]).map (Value.int .i64) by simp, List.getElem?_map, hj]
      rfl
end
end Go.Proofs.YthifdofdoeaemaaGreatDoor.Wk
end
section
namespace Go.Proofs.YthifdofdoeaemaaGreatDoor.Wk
open Go.RowKit Go.Proofs.YthifdofdoeaemaaGreatDoorW.PrintWords Go.Proofs.YthifdofdoeaemaaGreatDoorW.PrintLast Go.Proofs.YthifdofdoeaemaaGreatDoorW.PrintMore
attribute [local go_sem] max2_int min2_int max_two min_two max_three min_three max_four min_four
set_option linter.unusedVariables false
set_option linter.unusedSimpArgs false
section
open Go.RowKit Go.Lib Go.Maps
def Acyc (G : GS) : Prop := ∀ x ∈ G.objs, ∀ k ∈ x.2.links, k.2.1 = 0 ∨ x.1 < k.2.1 ∨ ∃ t, (k.2.1, t) ∈ G.objs ∧ t.kind = 2
theorem acyc_new : Acyc newG := fun x hx k hk => by obtain rfl := List.mem_singleton.1 hx; cases hk
theorem acyc_put {G : GS} (h : Acyc G) {id : Int} {x : Lk} (hx : x.2.1 = 0 ∨ id < x.2.1 ∨ ∃ t, (x.2.1, t) ∈ G.objs ∧ t.kind = 2) : Acyc (put2 G id x) := by
  intro y hy k hk
  obtain ⟨z, hz, e1, e2, e3, e4, e5⟩ := put2_mem hy
  have hm : ∀ {i : Int}, (∃ t, (i, t) ∈ G.objs ∧ t.kind = 2) → ∃ t, (i, t) ∈ (put2 G id x).objs ∧ t.kind = 2 := by
    rintro i ⟨t, ht, hk⟩
    obtain ⟨p, hp, e, -⟩ := put2_of (id := id) (x := x) ht
    exact ⟨p, hp, e.trans hk⟩
  rw [e1]
  rw [e4] at hk
  split at hk
  · rename_i hid
    rcases mem_putK.1 hk with rfl | ⟨hk, -⟩
    · rw [hid]
      exact hx.imp_right (fun a => a.imp_right hm)
    · exact (h z hz k hk).imp_right (fun a => a.imp_right hm)
  · exact (h z hz k hk).imp_right (fun a => a.imp_right hm)
theorem acyc_obj {G : GS} (h : Acyc G) (hn : G.at G.next = none) (kind : Int) : Acyc (newObj G kind) := by
  intro y hy k hk
  rcases mem_putO.1 hy with rfl | ⟨hy, -⟩
  · cases hk
  · refine (h y hy k hk).imp_right (fun a => a.imp_right ?_)
    rintro ⟨t, ht, hk⟩
    exact ⟨t, mem_putO.2 (.inr ⟨ht, at_none hn ht⟩), hk⟩
theorem acyc_cut {G : GS} (h : Acyc G) (id : Int) (x : Lk) : Acyc (cut2 G id x) := by
  intro y hy k hk
  obtain ⟨z, hz, e1, e2, e3, e4, e5⟩ := cut2_mem hy
  rw [e1]
  have hkz : k ∈ z.2.links := by
    rw [e4] at hk
    split at hk
    · exact (mem_delK.1 hk).1
    · exact hk
  refine (h z hz k hkz).imp_right (fun a => a.imp_right ?_)
  rintro ⟨t, ht, hk⟩
  obtain ⟨p, hp, e, -⟩ := cut2_of (id := id) (x := x) ht
  exact ⟨p, hp, e.trans hk⟩
theorem acyc_step {i : Int} {G G2 : GS} {r : List Int} (h : Asc G.objs) (ha : Acyc G) (hs : Step i G r G2) (hc : Clean i G G2) : Acyc G2 := by
  rintro ⟨y, q⟩ hy k hk
  obtain ⟨p, hp, e1, e2, e3⟩ := hs.back y q hy
  have hl : q.links = p.links := by
    by_cases hyi : y = i
    · subst hyi; exact (hc q hy).1 p hp
    · exact hs.same y q p hy hp hyi
  simp only at hk ⊢
  have hk2 := hk
  rw [hl] at hk2
  rcases ha _ hp k hk2 with h1 | h1 | ⟨t, ht, hk1⟩
  · exact .inl h1
  · exact .inr (.inl h1)
  · rcases (hs.ok.lk _ hy k hk).2 with h2 | ⟨-, -, u, hu⟩
    · exact .inl h2.1
    · obtain ⟨t', ht', f1, -⟩ := hs.back _ u hu
      obtain rfl := asc_uniq h ht ht'
      exact .inr (.inr ⟨u, hu, f1.trans hk1⟩)
theorem acyc_soft {G G2 : GS} {p t : ByteArray} {e : Int} (h : Ok G) (ha : Acyc G) (hs : softG G p t = some (e, G2)) : Acyc G2 := by
  obtain ⟨e', G3, hs', ⟨-, rfl⟩ | ⟨-, id, nm, o, -, -, -, -, -, -, rfl, h2⟩⟩ := soft_ok h p t
  · rw [hs] at hs'; cases hs'; exact ha
  · rw [hs] at hs'; cases hs'; exact acyc_put ha (.inl rfl)
theorem acyc_link {G G2 : GS} {p t : ByteArray} {e : Int} (h : Ok G) (ha : Acyc G) (hs : linkG G p t = some (e, G2)) : Acyc G2 := by
  obtain ⟨e', G3, hs', ⟨-, rfl⟩ | ⟨-, id, nm, o, tid, x, -, -, -, -, -, -, hx, hk, rfl, h2⟩⟩ := link_ok h p t
  · rw [hs] at hs'; cases hs'; exact ha
  · rw [hs] at hs'
    cases hs'
    exact acyc_put ha (.inr (.inr ⟨x, hx, (h.kind _ hx).elim (fun a => absurd a hk) (fun a => a.1)⟩))
theorem acyc_add {G G2 : GS} {p : ByteArray} {kind id e : Int} (h : Ok G) (hn : G.next < 4611686018427387904) (ha : Acyc G) (hs : addG G p kind = some (id, e, G2)) : Acyc G2 := by
  obtain ⟨id', e', G3, hs', ⟨-, -, rfl⟩ | ⟨-, -, -, -, gid, nm, o, -, ho, -, -, -, rfl, -, h2⟩⟩ := add_ok h hn p kind
  · rw [hs] at hs'; cases hs'; exact ha
  · rw [hs] at hs'
    cases hs'
    exact acyc_put (acyc_obj ha (fresh h) kind) (.inr (.inl (h.ids _ ho).2))
theorem acyc_unlink {G G2 : GS} {p : ByteArray} {r : List Int} {e : Int} (h : Ok G) (ha : Acyc G) (hs : unlinkG 300 G p = some (r, e, G2)) : Acyc G2 := by
  obtain ⟨r', e', G3, hs', ⟨-, -, rfl⟩ | ⟨-, id, nm, o, k, c, -, ho, hk, -, -, hh⟩⟩ := unlink_ok h 300 (by omega) p
  · rw [hs] at hs'; cases hs'; exact ha
  · rw [hs] at hs'
    cases hs'
    rcases hh with ⟨-, -, rfl⟩ | ⟨-, -, -, hst, hcl⟩
    · exact acyc_cut ha _ _
    · exact acyc_step (asc_cut h _ _) (acyc_cut ha _ _) hst hcl
theorem sumO_pos {f : GO → Nat} {l : List (Int × GO)} (h : 0 < sumO f l) : ∃ x ∈ l, 0 < f x.2 := by
  apply Classical.byContradiction
  intro hn
  have : sumO f l = 0 := sumO_zero_of (fun x hx => by
    by_cases h0 : f x.2 = 0
    · exact h0
    · exact absurd ⟨x, hx, by omega⟩ hn)
  omega
theorem leader {G : GS} (h : Ok G) {x : Int × GO} (hx : x ∈ G.objs) (hl : 0 < x.2.leads) : ∃ y ∈ G.objs, ∃ k ∈ y.2.links, k.2.1 = x.1 ∧ y.2.kind = 1 := by
  have h1 := h.leads x hx
  obtain ⟨y, hy, hc⟩ := sumO_pos (f := cntO x.1) (l := G.objs) (by omega)
  unfold cntO cntL at hc
  obtain ⟨k, hk, he⟩ := List.countP_pos_iff.1 hc
  refine ⟨y, hy, k, hk, by simpa using he, ?_⟩
  rcases h.kind y hy with h2 | ⟨-, h2⟩
  · exact h2
  · rw [h2] at hk; cases hk
end
end Go.Proofs.YthifdofdoeaemaaGreatDoor.Wk
end
section
namespace Go.Proofs.YthifdofdoeaemaaGreatDoor.Wk
open Go.RowKit Go.Proofs.YthifdofdoeaemaaGreatDoorW.PrintWords Go.Proofs.YthifdofdoeaemaaGreatDoorW.PrintLast Go.Proofs.YthifdofdoeaemaaGreatDoorW.PrintMore
attribute [local go_sem] max2_int min2_int max_two min_two max_three min_three max_four min_four
set_option linter.unusedVariables false
set_option linter.unusedSimpArgs false
section
open Go.RowKit Go.Lib Go.Maps
inductive Rch (G : GS) : Int → Prop
  | root : Rch G 1
  | step {x : Int} {o : GO} {k : Lk} : Rch G x → (x, o) ∈ G.objs → k ∈ o.links → 0 < k.2.1 → Rch G k.2.1
def Closed (G : GS) : Prop := ∀ x ∈ G.objs, ∀ k ∈ x.2.links, 0 < k.2.1 → ∃ t, (k.2.1, t) ∈ G.objs
theorem ok_closed {G : GS} (h : Ok G) : Closed G := fun x hx k hk h0 => by
  rcases (h.lk x hx k hk).2 with h1 | h1
  · omega
  · exact h1.2.2
def has (S : List (Int × GO)) (id : Int) : Prop := ∃ o, (id, o) ∈ S
def seenP (S : List (Int × GO)) (id : Int) : List (Int × GO) := putO (id, newO 0) S
theorem has_put {S : List (Int × GO)} {id x : Int} : has (seenP S id) x ↔ x = id ∨ has S x := by
  unfold has seenP
  constructor
  · rintro ⟨o, ho⟩
    rcases mem_putO.1 ho with h | ⟨h, -⟩
    · cases h; exact .inl rfl
    · exact .inr ⟨o, h⟩
  · rintro (rfl | ⟨o, ho⟩)
    · exact ⟨newO 0, mem_putO.2 (.inl rfl)⟩
    · by_cases e : x = id
      · subst e; exact ⟨newO 0, mem_putO.2 (.inl rfl)⟩
      · exact ⟨o, mem_putO.2 (.inr ⟨ho, e⟩)⟩
theorem has_at {S : List (Int × GO)} {id : Int} : (GS.mk 0 0 S).at id = none ↔ ¬ has S id := by
  constructor
  · rintro h ⟨o, ho⟩
    exact at_none h ho rfl
  · intro h
    cases e : (GS.mk 0 0 S).at id with
    | none => rfl
    | some o => exact absurd ⟨o, at_mem e⟩ h
theorem seen_len {S : List (Int × GO)} {id : Int} (h : ¬ has S id) : (seenP S id).length = S.length + 1 := len_put (G := GS.mk 0 0 S) (has_at.2 h) _
theorem seen_asc {S : List (Int × GO)} (h : Asc S) (id : Int) : Asc (seenP S id) := asc_put h _
theorem asc_nodup {S : List (Int × GO)} (h : Asc S) : (S.map (·.1)).Nodup := by
  unfold List.Nodup
  rw [List.pairwise_map]
  exact h.imp (fun {a b} hab => by omega)
theorem nodup_sub : ∀ (a b : List Int), a.Nodup → (∀ x ∈ a, x ∈ b) → a.length ≤ b.length
  | [], b, _, _ => by simp
  | x :: t, b, hn, hs => by
    have h1 := List.nodup_cons.1 hn
    have hx := hs x (by simp)
    have h2 := nodup_sub t (b.erase x) h1.2 (fun y hy => (List.mem_erase_of_ne (fun e => h1.1 (by rw [← e]; exact hy))).2 (hs y (by simp [hy])))
    have h3 := List.length_erase_of_mem hx
    have h4 := List.length_pos_of_mem hx
    rw [List.length_cons]
    omega
theorem sub_len {S T : List (Int × GO)} (h : Asc S) (hs : ∀ x, has S x → has T x) : S.length ≤ T.length := by
  have h1 : (S.map (·.1)).length ≤ (T.map (·.1)).length := nodup_sub _ _ (asc_nodup h) (fun x hx => by
    obtain ⟨y, hy, rfl⟩ := List.mem_map.1 hx
    obtain ⟨o, ho⟩ := hs y.1 ⟨y.2, hy⟩
    exact List.mem_map.2 ⟨(y.1, o), ho, rfl⟩)
  rwa [List.length_map, List.length_map] at h1
structure Srch (G : GS) (S : List (Int × GO)) (T : List Int) : Prop where
  asc : Asc S
  root : has S 1
  rch : ∀ x, has S x → Rch G x
  objs : ∀ x, has S x → has G.objs x
  todo : ∀ x ∈ T, has S x
  nodup : T.Nodup
  done : ∀ x, has S x → x ∉ T → ∀ o, (x, o) ∈ G.objs → ∀ k ∈ o.links, 0 < k.2.1 → has S k.2.1
structure Srch1 (G : GS) (S : List (Int × GO)) (t : Int) (T : List Int) (l : List Lk) : Prop where
  asc : Asc S
  root : has S 1
  rch : ∀ x, has S x → Rch G x
  objs : ∀ x, has S x → has G.objs x
  me : has S t
  todo : ∀ x ∈ T, has S x
  nodup : (t :: T).Nodup
  done : ∀ x, has S x → x ∉ t :: T → ∀ o, (x, o) ∈ G.objs → ∀ k ∈ o.links, 0 < k.2.1 → has S k.2.1
  mine : ∀ k ∈ l, 0 < k.2.1 → has S k.2.1
theorem srch_new {G : GS} (h : has G.objs 1) : Srch G [(1, newO 0)] [1] where
  asc := List.pairwise_singleton _ _
  root := ⟨_, List.mem_singleton.2 rfl⟩
  rch := fun x ⟨o, ho⟩ => by cases List.mem_singleton.1 ho; exact .root
  objs := fun x ⟨o, ho⟩ => by cases List.mem_singleton.1 ho; exact h
  todo := fun x hx => by obtain rfl := List.mem_singleton.1 hx; exact ⟨_, List.mem_singleton.2 rfl⟩
  nodup := by simp
  done := fun x ⟨o, ho⟩ hn => by cases List.mem_singleton.1 ho; exact absurd (List.mem_singleton.2 rfl) hn
theorem srch_open {G : GS} {S : List (Int × GO)} {t : Int} {T : List Int} (h : Srch G S (t :: T)) : Srch1 G S t T [] where
  asc := h.asc
  root := h.root
  rch := h.rch
  objs := h.objs
  me := h.todo t (by simp)
  todo := fun x hx => h.todo x (by simp [hx])
  nodup := h.nodup
  done := h.done
  mine := fun k hk => by cases hk
theorem srch_old {G : GS} {S : List (Int × GO)} {t : Int} {T : List Int} {l : List Lk} (h : Srch1 G S t T l) {k : Lk} (hk : 0 < k.2.1 → has S k.2.1) : Srch1 G S t T (l ++ [k]) :=
  ⟨h.asc, h.root, h.rch, h.objs, h.me, h.todo, h.nodup, h.done, fun k' hk' h0 => by
    rcases List.mem_append.1 hk' with h1 | h1
    · exact h.mine k' h1 h0
    · obtain rfl := List.mem_singleton.1 h1; exact hk h0⟩
theorem srch_add {G : GS} (hc : Closed G) {S : List (Int × GO)} {t : Int} {T : List Int} {l : List Lk} (h : Srch1 G S t T l) {o : GO} (ho : (t, o) ∈ G.objs) {k : Lk} (hk : k ∈ o.links) (h0 : 0 < k.2.1) (hn : ¬ has S k.2.1) :
    Srch1 G (seenP S k.2.1) t (T ++ [k.2.1]) (l ++ [k]) where
  asc := seen_asc h.asc _
  root := has_put.2 (.inr h.root)
  rch := fun x hx => by
    rcases has_put.1 hx with rfl | hx
    · exact (h.rch t h.me).step ho hk h0
    · exact h.rch x hx
  objs := fun x hx => by
    rcases has_put.1 hx with rfl | hx
    · exact hc _ ho k hk h0
    · exact h.objs x hx
  me := has_put.2 (.inr h.me)
  todo := fun x hx => by
    rcases List.mem_append.1 hx with hx | hx
    · exact has_put.2 (.inr (h.todo x hx))
    · obtain rfl := List.mem_singleton.1 hx; exact has_put.2 (.inl rfl)
  nodup := by
    rw [← List.cons_append]
    refine List.nodup_append.2 ⟨h.nodup, by simp, fun x hx y hy e => ?_⟩
    obtain rfl := List.mem_singleton.1 hy
    subst e
    rcases List.mem_cons.1 hx with rfl | hx
    · exact hn h.me
    · exact hn (h.todo _ hx)
  done := fun x hx hxn => by
    have h1 : x ∉ t :: T := fun h2 => hxn (by
      rcases List.mem_cons.1 h2 with rfl | h2
      · exact List.mem_cons_self
      · exact List.mem_cons_of_mem _ (List.mem_append.2 (.inl h2)))
    have h2 : x ≠ k.2.1 := fun e => hxn (List.mem_cons_of_mem _ (List.mem_append.2 (.inr (by simp [e]))))
    rcases has_put.1 hx with rfl | hx
    · exact absurd rfl h2
    · exact fun o ho k hk h0 => has_put.2 (.inr (h.done x hx h1 o ho k hk h0))
  mine := fun k' hk' h1 => by
    rcases List.mem_append.1 hk' with h2 | h2
    · exact has_put.2 (.inr (h.mine k' h2 h1))
    · obtain rfl := List.mem_singleton.1 h2; exact has_put.2 (.inl rfl)
theorem srch_close {G : GS} (ha : Asc G.objs) {S : List (Int × GO)} {t : Int} {T : List Int} {o : GO} (h : Srch1 G S t T o.links) (ho : (t, o) ∈ G.objs) : Srch G S T where
  asc := h.asc
  root := h.root
  rch := h.rch
  objs := h.objs
  todo := h.todo
  nodup := (List.nodup_cons.1 h.nodup).2
  done := fun x hx hxn p hp k hk h0 => by
    by_cases e : x = t
    · subst e
      obtain rfl := asc_uniq ha hp ho
      exact h.mine k hk h0
    · exact h.done x hx (fun h2 => by rcases List.mem_cons.1 h2 with h3 | h3 <;> contradiction) p hp k hk h0
theorem srch_all {G : GS} {S : List (Int × GO)} (h : Srch G S []) (x : Int) : has S x ↔ Rch G x := by
  refine ⟨h.rch x, fun hr => ?_⟩
  induction hr with
  | root => exact h.root
  | step _ ho hk h0 ih => exact h.done _ ih (by simp) _ ho _ hk h0
theorem srch_len {G : GS} {S : List (Int × GO)} {T : List Int} (h : Srch G S T) : S.length ≤ G.objs.length ∧ T.length ≤ S.length := by
  refine ⟨sub_len h.asc h.objs, ?_⟩
  have := nodup_sub _ (S.map (·.1)) h.nodup (fun x hx => by obtain ⟨o, ho⟩ := h.todo x hx; exact List.mem_map.2 ⟨_, ho, rfl⟩)
  rwa [List.length_map] at this
theorem srch_len1 {G : GS} {S : List (Int × GO)} {t : Int} {T : List Int} {l : List Lk} (h : Srch1 G S t T l) : S.length ≤ G.objs.length ∧ T.length + 1 ≤ S.length := by
  refine ⟨sub_len h.asc h.objs, ?_⟩
  have := nodup_sub _ (S.map (·.1)) h.nodup (fun x hx => by
    rcases List.mem_cons.1 hx with rfl | hx
    · obtain ⟨o, ho⟩ := h.me; exact List.mem_map.2 ⟨_, ho, rfl⟩
    · obtain ⟨o, ho⟩ := h.todo x hx; exact List.mem_map.2 ⟨_, ho, rfl⟩)
  rwa [List.length_map, List.length_cons] at this
end
end Go.Proofs.YthifdofdoeaemaaGreatDoor.Wk
end
section
namespace Go.Proofs.YthifdofdoeaemaaGreatDoor.Wk
open Go.RowKit Go.Proofs.YthifdofdoeaemaaGreatDoorW.PrintWords Go.Proofs.YthifdofdoeaemaaGreatDoorW.PrintLast Go.Proofs.YthifdofdoeaemaaGreatDoorW.PrintMore
attribute [local go_sem] max2_int min2_int max_two min_two max_three min_three max_four min_four
set_option linter.unusedVariables false
set_option linter.unusedSimpArgs false
section
open Go.RowKit Go.Lib Go.Maps
def Shift (r r' : Int × Int × Nat) : Prop := r'.1 = r.1 ∧ r'.2.1 = r.2.1 ∧ r'.2.2 + 1 = r.2.2 ∧ r.2.2 ≤ 8
def softN : ByteArray := ⟨#[115, 111, 102, 116]⟩
def softP : ByteArray := ⟨#[47, 115, 111, 102, 116]⟩
end
end Go.Proofs.YthifdofdoeaemaaGreatDoor.Wk
end
section
namespace Go.Proofs.YthifdofdoeaemaaGreatDoor.Wk
open Go.RowKit Go.Proofs.YthifdofdoeaemaaGreatDoorW.PrintWords Go.Proofs.YthifdofdoeaemaaGreatDoorW.PrintLast Go.Proofs.YthifdofdoeaemaaGreatDoorW.PrintMore
attribute [local go_sem] max2_int min2_int max_two min_two max_three min_three max_four min_four
set_option linter.unusedVariables false
set_option linter.unusedSimpArgs false
section
open Go.RowKit Go.Lib Go.Maps Go.Proofs.YthifdofdoeaemaaGreatDoorQ
attribute [local go_sem] Oper.semAt_some
theorem names_mine {w0 w : World} {g : Nat} {F : Nat → Prop} {G : GS} (h : Mine w0 w g F G) (hl : Lay w0) (p : ByteArray) {l : List Lk} {e : Int} (hf : namesG G p = some (l, e)) :
    Calls Tryz.prog 20 #[.pointer (some ⟨g, 0, none⟩), .string p] w fun ev w' => ∃ v, ev = .returned (.tuple #[v, .int .i64 e]) ∧ w'.ownsRow w.heap.size 42 3 v l.length (cells3 l) ∧ Below w.heap.size w w' := by
  have hlw := h.lay hl
  obtain ⟨B, rfl, h2, -⟩ := h
  exact names_calls B G p w hlw h2 l e hf
theorem cells3_at : ∀ (l : List Lk) (i j : Nat) (x : Lk), l[i]? = some x → j < 3 → (cells3 l)[i * 3 + j]? = [Value.string x.1, .int .i64 x.2.1, .string x.2.2][j]?
  | [], i, j, x, h, hj => by simp at h
  | a :: t, 0, j, x, h, hj => by
    obtain rfl : a = x := by simpa using h
    unfold cells3
    rw [List.flatMap_cons, List.getElem?_append_left (by simp; omega)]
    simp
  | a :: t, i + 1, j, x, h, hj => by
    have := cells3_at t i j x (by simpa using h) hj
    unfold cells3 at this ⊢
    rw [List.flatMap_cons, List.getElem?_append_right (by simp; omega), ← this]
    congr 1
    simp
    omega
theorem link_at {w : World} {base n c : Nat} {A : Option Addr} {l : List Lk} (h : w.ownsRow base 42 3 (.slice A n c) n (cells3 l)) (hn : n = l.length) {i : Nat} {x : Lk} (hx : l[i]? = some x) : ∃ g, A = some ⟨g, 0, none⟩ ∧ base ≤ g ∧ w.rangeAt g (i * 3) [.string x.1, .int .i64 x.2.1, .string x.2.2] := by
  have hi : i < l.length := (List.getElem?_eq_some_iff.1 hx).1
  rcases h.2 with ⟨_, rfl⟩ | ⟨g, cap, cur, hv, hb, _⟩
  · omega
  · have hA : A = some ⟨g, 0, none⟩ := by cases hv; rfl
    subst hA
    refine ⟨g, rfl, hb, fun j v hj => ?_⟩
    have hj3 : j < 3 := by have := (List.getElem?_eq_some_iff.1 hj).1; simpa using this
    rw [h.cellAt (i * 3 + j) (by omega), cells3_at l i j x hx hj3]
    exact hj
end
end Go.Proofs.YthifdofdoeaemaaGreatDoor.Wk
end
section
namespace Go.Proofs.YthifdofdoeaemaaGreatDoor.Wk
open Go.RowKit Go.Proofs.YthifdofdoeaemaaGreatDoorW.PrintWords Go.Proofs.YthifdofdoeaemaaGreatDoorW.PrintLast Go.Proofs.YthifdofdoeaemaaGreatDoorW.PrintMore
attribute [local go_sem] max2_int min2_int max_two min_two max_three min_three max_four min_four
set_option linter.unusedVariables false
set_option linter.unusedSimpArgs false
section
open Go.RowKit Go.Lib Go.Maps Go.Sort Go.Shelf Go.Proofs.YthifdofdoeaemaaGreatDoorQ
theorem intKeys_O (ob : Int → Nat) (l : List (Int × GO)) : intKeys (DataW.map (H := Unit) (l.map (encO ob))) = l.map (·.1) := by
  simp only [intKeys, List.map_map]
  rfl
theorem sorts_int (m : Nat) : AnyZI.SortsIn Tryz.prog Tryz.sorted48_ren Fence.wide m :=
  ⟨fun blk off cap ss W hH hblk hsz => callsIn_wide.2 (AnyM.slices_Sort_int Tryz.sort46 blk off cap ss W hH hblk hsz),
   fun p cap W => callsIn_wide.2 (AnyM.slices_Sort_int_none Tryz.sort46 p cap W)⟩
theorem keysO_calls (mb : Option Nat) (W : World) : Calls Tryz.prog 49 #[.map mb] W fun e w' => e = .returned (.func (.func 80) #[] #[.pointer (some ⟨W.heap.size, 0, none⟩)]) ∧ w' = W.alloc (.cells #[.map mb] 71) :=
  (callsIn_wide (n := 5)).1 (AnyZI.keys_in Tryz.keys49 Fence.wide 5 trivial rfl mb W)
theorem sorted_O {ob : Int → Nat} {l : List (Int × GO)} (hp : l.Pairwise (fun x y => x.1 < y.1)) {ss : List Int} (h : ss.Perm (intKeys (DataW.map (H := Unit) (l.map (encO ob))))) : ss.mergeSort (fun x y => decide (x ≤ y)) = l.map (·.1) := by
  rw [intKeys_O] at h
  have h1 : (l.map (·.1)).Pairwise (fun x y => decide (x ≤ y) = true) := by
    rw [List.pairwise_map]
    exact hp.imp (fun {a b} hab => decide_eq_true (by omega))
  refine List.Perm.eq_of_pairwise (le := fun x y => decide (x ≤ y)) ?_ ?_ h1 ((List.mergeSort_perm _ _).trans h)
  · intro a b _ _ h1 h2
    simp only [decide_eq_true_eq] at h1 h2
    omega
  · exact List.pairwise_mergeSort (le := fun x y => decide (x ≤ y)) (by intro a b c h1 h2; simp only [decide_eq_true_eq] at h1 h2 ⊢; omega) (by intro a b; simp only [Bool.or_eq_true, decide_eq_true_eq]; omega) ss
theorem GraphAt.asc {W : World} {B : GB} {G : GS} (h : GraphAt W B G) : G.objs.Pairwise (fun x y => x.1 < y.1) := by
  have := own_rising (int_keyed Tryz.underlying3) h.objs
  rw [List.pairwise_map] at this
  exact this.imp (fun {a b} hab => of_decide_eq_true hab)
set_option maxHeartbeats 1000000 in
theorem sortedO_calls (B : GB) (G : GS) (w : World) (hG : GraphAt w B G) (hb : G.objs.length ≤ bound) :
    Calls Tryz.prog 48 #[.func (.func 80) #[] #[.pointer (some ⟨w.heap.size, 0, none⟩)]] (w.alloc (.cells #[.map (some B.mb)] 71)) fun e w' =>
      ∃ v, e = .returned v ∧ w'.ownsRow w.heap.size 3 1 v G.objs.length (G.objs.map (fun x => .int .i64 x.1)) ∧ Below (w.heap.size + 1) (w.alloc (.cells #[.map (some B.mb)] 71)) w' := by
  have hown := hG.objs
  have hbl := hown.lt
  have hsz : Maps.size (DataW.map (H := Unit) (G.objs.map (encO B.ob))) = G.objs.length := by simp [Maps.size]
  have hseq : SeqGives Fence.wide 2 Tryz.prog 80 #[.pointer (some ⟨w.heap.size, 0, none⟩)] encZ (fun ss => ss.Perm (intKeys (DataW.map (H := Unit) (G.objs.map (encO B.ob))))) (Maps.size (DataW.map (H := Unit) (G.objs.map (encO B.ob)))) (w.alloc (.cells #[.map (some B.mb)] 71)) :=
    AnyZI.keys_gives (ρ := Tryz.keys49_ren) { Tryz.keys49 with } Fence.wide _ trivial rfl (by omega) w.heap.size B.mb _ _ _ (by simp) (by simp) (by
      obtain ⟨es, clock, hb, Ft, hs, hD⟩ := hown
      exact ⟨es, clock, (Below.heap_alloc _ _ B.mb hbl).trans hb, Ft, hs, hD⟩)
  have hc := AnyZI.sorted_in Tryz.sorted48 Fence.wide 5 trivial trivial trivial trivial rfl (by omega) (sorts_int _) (enters_of Tryz.func46 (by kernel_rfl) rfl) 80 #[.pointer (some ⟨w.heap.size, 0, none⟩)] trivial (enters_of Tryz.func80 (by kernel_rfl) rfl) _ _ (by rw [hsz]; unfold bound at hb; unfold maxLen; omega) (by rw [hsz]; unfold bound at hb; omega) _ hseq
  refine ((callsIn_wide (n := 5)).1 hc).mono ?_
  rintro e w' ⟨v, ss, rfl, hp, hrow, -, hbw⟩
  have hs1 : (w.alloc (.cells #[.map (some B.mb)] 71)).heap.size = w.heap.size + 1 := by simp
  have hlen : ss.length = G.objs.length := by rw [hp.length_eq, intKeys_O, List.length_map]
  rw [sorted_O hG.asc hp, List.map_map, hlen] at hrow
  refine ⟨v, rfl, ?_, hs1 ▸ hbw⟩
  exact hrow.mono (base' := w.heap.size) (by omega)
end
end Go.Proofs.YthifdofdoeaemaaGreatDoor.Wk
end
section
namespace Go.Proofs.YthifdofdoeaemaaGreatDoor.Wk
open Go.RowKit Go.Proofs.YthifdofdoeaemaaGreatDoorW.PrintWords Go.Proofs.YthifdofdoeaemaaGreatDoorW.PrintLast Go.Proofs.YthifdofdoeaemaaGreatDoorW.PrintMore
attribute [local go_sem] max2_int min2_int max_two min_two max_three min_three max_four min_four
set_option linter.unusedVariables false
set_option linter.unusedSimpArgs false
section
open Go.RowKit Go.Lib Go.Maps Go.Proofs.YthifdofdoeaemaaGreatDoorQ
attribute [local go_sem] Oper.semAt_some
theorem own_sl3 {w : World} {base n : Nat} {e : TypeId} {v : Value} {xs : List Value} (h : w.ownsRow base e 3 v n xs) : ∃ A c, v = .slice A n c := by
  rcases h.2 with ⟨rfl, rfl⟩ | ⟨g, cap, cur, rfl, _⟩
  · exact ⟨_, _, rfl⟩
  · exact ⟨_, _, rfl⟩
theorem run_append_row {P : Program} (w : World) (base base2 : Nat) (t ty e : TypeId) (i : TypeInfo) (z : Value) (size bytes : Nat) (h1 : P.underlying t = some (.slice e)) (h2 : P.info? e = some i) (h3 : i.zero = some z) (h4 : i.size = size) (h5 : i.bytes = bytes) (h6 : z.cells.size = size) (h7 : 0 < size)
    (v u : Value) (k m : Nat) (xs news : List Value) (hown : w.ownsRow base e size v k xs) (hrow : w.ownsRow base2 e size u m news)
    (h1c : ∀ u ∈ news, u.oneCell' = true) (b1 : k + m ≤ maxLen) (b2 : (k + m) * bytes ≤ 140737488355328) (b3 : base ≤ w.heap.size) :
    ∃ v' w', (Builtin.append_ #[t, t] ty #[v, u]).run P w = .ok v' w' ∧ w'.ownsRow base e size v' (k + m) (xs ++ news) ∧ w.grownBy w' v.ownBlock := by
  rcases hrow.2 with ⟨rfl, rfl⟩ | ⟨g, cap, cur, rfl, _⟩
  · have hnews : news = [] := List.eq_nil_of_length_eq_zero (by simpa using hrow.1)
    subst hnews
    exact ⟨v, w, run_append_owned_none (P := P) w base t ty e i size h1 h2 _ k xs hown, by simpa using hown, World.grownBy.refl _ _⟩
  · obtain ⟨v', w', r1, r2, r3, -⟩ := run_append_own_at (P := P) w base t ty e i z size bytes h1 h2 h3 h4 h5 h6 h7 v k xs hown ⟨g, 0, none⟩ m cap news hrow.1 (hrow.cells (g := g) rfl) h1c b1 b2 b3
    exact ⟨v', w', r1, r2, r3⟩
theorem step_append {P : Program} {W W1 : World} {ops : Array Oper} {o : Oper} {a : Act} {K : Act → World → Prop} {Q : Exit → Act → World → Prop} {E : Prop} (hgd : o.guard = none) (s x : Operand) (t : TypeId)
    (ho : o.op = Op.call { callee := Callee.builtin Builtin.append, args := #[s, x], argTypes := #[t, t] }) {vs vx vr : Value} (hs : a.eval s = vs) (hx : a.eval x = vx)
    (hr : (Builtin.append_ #[t, t] o.type #[vs, vx]).run P W = .ok vr W1) (hK : K (a.put o.dst vr) W1) : if Region.wanted o (yielded ops a.tmps) = true then Oper.wp P o a W K Q else E := by
  have hw : Region.wanted o (yielded ops a.tmps) = true := by simp [Region.wanted, hgd]
  rw [if_pos hw]
  unfold Oper.wp
  simp [execOp, ho, resolve, invoke, builtin, hs, hx, hr, Result.andThen]
  exact hK
def nodeC : List (Int × GO) → List Value → List Value
  | x :: l, u :: sl => .int .i64 x.1 :: .int .i64 x.2.kind :: u :: nodeC l sl
  | _, _ => []
theorem nodeC_snoc : ∀ (l : List (Int × GO)) (sl : List Value) (x : Int × GO) (u : Value), sl.length = l.length → nodeC (l ++ [x]) (sl ++ [u]) = nodeC l sl ++ [.int .i64 x.1, .int .i64 x.2.kind, u]
  | [], [], x, u, _ => rfl
  | a :: l, b :: sl, x, u, h => by
    show _ :: _ :: _ :: nodeC (l ++ [x]) (sl ++ [u]) = _
    rw [nodeC_snoc l sl x u (by simpa using h)]
    rfl
def NodesAt (W : World) (base : Nat) (v : Value) (l : List (Int × GO)) : Prop := ∃ sl : List Value, sl.length = l.length ∧ W.ownsRow base 50 3 v l.length (nodeC l sl) ∧
  ∀ (j : Nat) (x : Int × GO) (u : Value), l[j]? = some x → sl[j]? = some u → W.ownsRow base 42 3 u x.2.links.length (cells3 x.2.links)
theorem NodesAt.below {w W : World} {base : Nat} {v : Value} {l : List (Int × GO)} (h : NodesAt w base v l) (hb : Below w.heap.size w W) : NodesAt W base v l := by
  obtain ⟨sl, h1, h2, h3⟩ := h
  exact ⟨sl, h1, row_same h2 (SameOn.of_below (S := fun _ => True) hb) (fun _ _ => trivial), fun j x u hx hu => row_same (h3 j x u hx hu) (SameOn.of_below (S := fun _ => True) hb) (fun _ _ => trivial)⟩
theorem NodesAt.mono {W : World} {base base' : Nat} {v : Value} {l : List (Int × GO)} (h : NodesAt W base v l) (hb : base' ≤ base) : NodesAt W base' v l := by
  obtain ⟨sl, h1, h2, h3⟩ := h
  exact ⟨sl, h1, h2.mono hb, fun j x u hx hu => (h3 j x u hx hu).mono hb⟩
theorem rows_apart {W : World} {b1 b2 n m s1 s2 : Nat} {e1 e2 : TypeId} {v u : Value} {xs ys : List Value} (h : W.ownsRow b1 e1 s1 v n xs) (g : W.ownsRow b2 e2 s2 u m ys) (he : e1 ≠ e2) {k : Nat} (hk : v.ownBlock = some k) : u.ownBlock ≠ some k := by
  intro hu
  obtain ⟨c1, q1⟩ := own_typed h k hk
  obtain ⟨c2, q2⟩ := own_typed g k hu
  rw [q1] at q2
  cases q2
  exact he rfl
theorem NodesAt.push {w1 w2 : World} {base : Nat} {v v' : Value} {l : List (Int × GO)} {x : Int × GO} {sl : List Value} {u : Value} (h1 : sl.length = l.length)
    (h2 : w2.ownsRow base 50 3 v' (l.length + 1) (nodeC l sl ++ [.int .i64 x.1, .int .i64 x.2.kind, u]))
    (h3 : ∀ (j : Nat) (y : Int × GO) (z : Value), l[j]? = some y → sl[j]? = some z → w1.ownsRow base 42 3 z y.2.links.length (cells3 y.2.links)) (hu : w1.ownsRow base 42 3 u x.2.links.length (cells3 x.2.links))
    (ho : w1.ownsRow base 50 3 v l.length (nodeC l sl)) (hg : w1.grownBy w2 v.ownBlock) : NodesAt w2 base v' (l ++ [x]) := by
  have keep : ∀ {n : Nat} {z : Value} {ys : List Value}, w1.ownsRow base 42 3 z n ys → w2.ownsRow base 42 3 z n ys := fun {n z ys} hz =>
    own_move hz (fun k hk => hg.block k (hz.lt k hk).2 (fun e => rows_apart hz ho (by decide) hk e.symm))
  refine ⟨sl ++ [u], by simp [h1], ?_, fun j y z hy hz => ?_⟩
  · rw [nodeC_snoc l sl x u h1, List.length_append]
    exact h2
  · by_cases hj : j < l.length
    · rw [List.getElem?_append_left hj] at hy
      rw [List.getElem?_append_left (by omega)] at hz
      exact keep (h3 j y z hy hz)
    · have hj2 : j = l.length := by
        have := (List.getElem?_eq_some_iff.1 hy).1
        simp at this
        omega
      subst hj2
      rw [List.getElem?_append_right (Nat.le_refl _)] at hy
      rw [List.getElem?_append_right (by omega)] at hz
      simp at hy
      rw [h1] at hz
      simp at hz
      subst hy
      subst hz
      exact keep hu
set_option maxHeartbeats 8000000 in
set_option maxRecDepth 100000 in
theorem nodes_calls (B : GB) (G : GS) (w : World) (hG : GraphAt w B G) (hb : G.objs.length ≤ bound) (hlb : ∀ x ∈ G.objs, x.2.links.length ≤ bound) :
    Calls Tryz.prog 23 #[.pointer (some ⟨B.g, 0, none⟩)] w fun e w' => ∃ v, e = .returned v ∧ NodesAt w' w.heap.size v G.objs ∧ Below w.heap.size w w' := by
  have HG := Aside0.mk hG
  have c1 := hG.c1
  have HLB := Aside0.mk hlb
  clear hG hlb
  go_enter Tryz.func23, Tryz.ntmps23
  go_wp2_with (first
    | (go_at_call 39; refine (good_calls B G _ HG.out).mono ?_; rintro e_ w0 ⟨rfl, h0⟩; obtain rfl := h0.symm)
    | (go_at_call 49; refine (keysO_calls _ _).mono ?_; rintro e_ w2 ⟨rfl, rfl⟩)
    | (go_at_call 48; refine (sortedO_calls B G _ HG.out hb).mono ?_; rintro e_ w3 ⟨v3, rfl, hrow3, hb3⟩; obtain ⟨A3, k3, rfl⟩ := own_slice hrow3; have HR3 := Aside0.mk hrow3; have HB3 := Aside0.mk hb3; clear hrow3 hb3))
  have hsz3 : w.heap.size + 1 ≤ w3.heap.size := by have := HB3.out.size; simp only [World.size_alloc] at this; exact this
  have hbw : Below w.heap.size w w3 := (below_alloc (Below.refl _ _) _).trans (HB3.out.mono (by omega))
  have HBW := Aside0.mk hbw
  clear hbw
  obtain ⟨i0, hi0, hz0, hz1, hz2⟩ := info_parts (P := Tryz.prog) (e := 50) (z := .agg #[.int .i64 0, .int .i64 0, .slice none 0 0]) (size := 3) (bytes := 40) (by kernel_rfl)
  have HIN := Aside0.mk hi0
  have HZ := Aside0.mk (And.intro hz0 (And.intro hz1 hz2))
  clear hi0 hz0 hz1 hz2 c1
  go_loopg [17, 3] G.objs.length (fun kq v17 v3 W => ∃ (i : Nat), v17 = .int .i64 (i : Int) ∧ Aside0 (i ≤ G.objs.length ∧ G.objs.length - i ≤ kq) ∧ Aside0 (NodesAt W w3.heap.size v3 (G.objs.take i)) ∧ Aside0 (Below w3.heap.size w3 W))
  case atStart => exact ⟨0, rfl, ⟨Nat.zero_le _, by omega⟩, ⟨⟨[], rfl, World.ownsRow_nil _ _ _ _, fun j x u hx _ => by simp at hx⟩⟩, ⟨Below.refl _ _⟩⟩
  case round =>
    obtain ⟨i, rfl, HI, HOUT, HS⟩ := hrel
    have hszr : w3.heap.size ≤ wr.heap.size := HS.out.size
    by_cases hlt : i < G.objs.length
    · obtain ⟨k, hk⟩ : ∃ k, G.objs[i]'hlt = k := ⟨_, rfl⟩
      have hkm : k ∈ G.objs := hk ▸ List.getElem_mem _
      obtain ⟨g3, hA, hg3, hc3⟩ := own_at HR3.out (i := i) hlt
      have hc3' : w3.cell? ⟨g3, i, none⟩ = some (.int .i64 k.1) := by rw [hc3]; simp [hlt, hk]
      have hg3l : g3 < w3.heap.size := World.block_lt_of_cell? w3 _ hc3'
      obtain ⟨ad, had⟩ : ∃ ad : Addr, ad = ⟨g3, 0, none⟩ := ⟨_, rfl⟩
      have hcell : wr.cell? (ad.add i) = some (.int .i64 k.1) := by rw [had, Addr.add_lit, Nat.zero_add]; exact (HS.out.cell (p := ⟨g3, i, none⟩) hg3l).trans hc3'
      rw [← had] at hA
      subst hA
      have hat : G.at k.1 = some k.2 := at_of_mem HG.out.asc hkm
      have hGr : GraphAt wr B G := HG.out.below (HBW.out.trans (HS.out.mono HBW.out.size))
      have c1 : wr.cell? ⟨B.g, 1, none⟩ = some (.map (some B.mb)) := hGr.c1
      have hlk := hGr.lookAt hat
      have p1 : (0 : Int) ≤ (i : Int) := Int.natCast_nonneg i
      have q1 : (i : Int) < (G.objs.length : Int) := by omega
      have q2 : decide ((i : Int) < (G.objs.length : Int)) = true := decide_eq_true q1
      have hw1 : wrap64 ((i : Int) + 1) = i + 1 := by unfold bound at hb; unfold wrap64; omega
      replace q1 := eq_true q1
      have HK := Aside0.mk hk
      have HAT := Aside0.mk hat
      have HGR := Aside0.mk hGr
      have HKM := Aside0.mk hkm
      clear hc3 hc3' hg3l hg3 had hk hat hGr hkm
      go_upto_region 8 with (fail)
      have hS : GraphAt wr.drew B G ∧ Below w3.heap.size w3 wr.drew ∧ wr.drew.cell? ⟨B.ob k.1, 0, none⟩ = some (.int .i64 k.2.kind) := ⟨HGR.out.below (below_drew (Below.refl _ _)), HS.out.trans ((below_drew (Below.refl _ _)).mono hszr), (HGR.out.obj HAT.out).c0⟩
      refine start_ (n := 12) (S := fun W' => GraphAt W' B G ∧ Below w3.heap.size w3 W' ∧ W'.cell? ⟨B.ob k.1, 0, none⟩ = some (.int .i64 k.2.kind)) (ds := [9, 10]) #[false, false, false, false, false, false, false, false, false, false, false, false] (by kernel_rfl) rfl rfl hS (fun hHeld => ?_)
      refine pure_ (i := 0) (N := some 27) (v := ?_) (a' := ?_) (bb 12 1) rfl rfl (by kernel_rfl) (fun _ _ _ h => h) (Or.inl ⟨by rfl, ?_⟩) ?_ ?_
      rotate_left
      · intro w'
        go_simp
        with_reducible rfl
      rotate_left
      · simp only [Act.put, sa, sz, ss, i64_w, i32_w]
        rfl
      refine pure_ (i := 1) (N := some 28) (v := ?_) (a' := ?_) (bb 12 3) rfl rfl (by kernel_rfl) (fun _ _ _ h => h) (Or.inl ⟨by rfl, ?_⟩) ?_ ?_
      rotate_left
      · intro w'
        go_simp
        with_reducible rfl
      rotate_left
      · simp only [Act.put, sa, sz, ss, i64_w, i32_w]
        rfl
      refine pure_ (i := 2) (N := some 29) (v := ?_) (a' := ?_) (bb 12 7) rfl rfl (by kernel_rfl) (fun _ _ _ h => h) (Or.inl ⟨by rfl, ?_⟩) ?_ ?_
      rotate_left
      · intro w'
        go_simp
        with_reducible rfl
      rotate_left
      · simp only [Act.put, sa, sz, ss, i64_w, i32_w]
        rfl
      refine pure_ (i := 3) (N := some 30) (v := ?_) (a' := ?_) (bb 12 15) rfl rfl (by kernel_rfl) (fun _ _ _ h => h) (Or.inl ⟨by rfl, ?_⟩) ?_ ?_
      rotate_left
      · intro w'
        go_simp
        with_reducible rfl
      rotate_left
      · simp only [Act.put, sa, sz, ss, i64_w, i32_w]
        rfl
      refine pure_ (i := 4) (N := some 31) (v := ?_) (a' := ?_) (bb 12 31) rfl rfl (by kernel_rfl) (fun _ _ _ h => h) (Or.inl ⟨by rfl, ?_⟩) ?_ ?_
      rotate_left
      · intro w'
        go_simp
        with_reducible rfl
      rotate_left
      · simp only [Act.put, sa, sz, ss, i64_w, i32_w]
        rfl
      refine take_ (i := 5) (N := some 32) (v := ?_) (a' := ?_) (bb 12 63) rfl rfl (by kernel_rfl) (fun _ _ _ h => h) (Or.inl ⟨by rfl, ?_⟩) hHeld ?_ ?_
      rotate_left
      · rintro w' ⟨s1_, s2_, s3_⟩
        go_simp
        with_reducible rfl
      rotate_left
      · simp only [Act.put, sa, sz, ss, i64_w, i32_w]
        rfl
      refine pure_ (i := 6) (N := some 33) (v := ?_) (a' := ?_) (bb 12 127) rfl rfl (by kernel_rfl) (fun _ _ _ h => h) (Or.inl ⟨by rfl, ?_⟩) ?_ ?_
      rotate_left
      · intro w'
        go_simp
        with_reducible rfl
      rotate_left
      · simp only [Act.put, sa, sz, ss, i64_w, i32_w]
        rfl
      refine one_ (i := 7) (N := some 34) (bb 12 255) rfl rfl (by kernel_rfl) (by decide) (fun K hK => ?_)
      skip
      refine goes_ Tryz.func47 (by kernel_rfl) rfl #[.pointer (some ⟨B.ob k.1, 0, none⟩)] (by rfl) rfl rfl (by (simp only [List.map_toArray, List.map_cons, List.map_nil]); rfl) ?_
      refine (list_calls B G k.1 k.2 _ hHeld.1 HAT.out (HLB.out k HKM.out)).mono ?_
      rintro e_ w5 ⟨v5, rfl, hr5, hb5⟩
      obtain ⟨A5, k5, rfl⟩ := own_sl3 hr5
      refine ⟨_, rfl, ?_⟩
      refine hK.out _ _ ⟨hHeld.1.below hb5, hHeld.2.1.trans (hb5.mono hHeld.2.1.size), (hb5.cell (World.block_lt_of_cell? _ _ hHeld.2.2)).trans hHeld.2.2⟩ (fun hHeld => ?_)
      clear hK K
      refine norm_ (a' := ?_) ?_ ?_
      rotate_left
      · show Act.put _ (some 34) _ = _
        simp only [Act.put, sa, sz, ss, i64_w, i32_w]
        rfl
      have HR5 := Aside0.mk hr5
      have HB5 := Aside0.mk hb5
      clear hr5 hb5
      refine pure_ (i := 8) (N := some 35) (v := ?_) (a' := ?_) (bb 12 511) rfl rfl (by kernel_rfl) (fun _ _ _ h => h) (Or.inl ⟨by rfl, ?_⟩) ?_ ?_
      rotate_left
      · intro w'
        go_simp
        with_reducible rfl
      rotate_left
      · simp only [Act.put, sa, sz, ss, i64_w, i32_w]
        rfl
      refine last_ (i := 9) (N := some 36) (bb 12 1023) rfl rfl (by kernel_rfl) (by decide) (fun K hK => ?_)
      skip
      refine value_ (v := .slice (some ⟨w5.heap.size, 0, none⟩) 1 1) (w1 := w5.alloc (.cells #[.int .i64 k.1, .int .i64 k.2.kind, .slice A5 k.2.links.length k5] 50 (0, 0))) (by rfl) rfl (by go_simp) ?_
      refine hK.out _ _ ?_
      clear hK K
      refine norm_ (a' := ?_) ?_ ?_
      rotate_left
      · show Act.put _ (some 36) _ = _
        simp only [Act.put, sa, sz, ss, i64_w, i32_w]
        rfl
      have hb5 : Below wr.heap.size wr w5 := (below_drew (Below.refl _ _)).trans HB5.out
      have hb6 : Below wr.heap.size wr (w5.alloc (.cells #[.int .i64 k.1, .int .i64 k.2.kind, .slice A5 k.2.links.length k5] 50 (0, 0))) := hb5.trans ((below_alloc (Below.refl _ _) _).mono hb5.size)
      obtain ⟨sl, n1, n2, n3⟩ := HOUT.out.below hb6
      have hlen : (G.objs.take i).length = i := by rw [List.length_take]; omega
      have hnew : (w5.alloc (.cells #[.int .i64 k.1, .int .i64 k.2.kind, .slice A5 k.2.links.length k5] 50 (0, 0))).ownsRow w5.heap.size 50 3 (.slice (some ⟨w5.heap.size, 0, none⟩) 1 1) 1 [.int .i64 k.1, .int .i64 k.2.kind, .slice A5 k.2.links.length k5] := ⟨rfl, .inr ⟨_, 1, _, rfl, Nat.le_refl _, World.alloc_heap_new _ _, Nat.le_refl _, by decide, rfl, rfl⟩⟩
      obtain ⟨v7, w7, hr7, ho7, hg7⟩ := run_append_row (P := Tryz.prog) _ w3.heap.size w5.heap.size 46 46 50 i0 (.agg #[.int .i64 0, .int .i64 0, .slice none 0 0]) 3 40 Tryz.underlying46 HIN.out HZ.out.1 HZ.out.2.1 HZ.out.2.2 rfl (by decide) u3 _ _ 1 _ _ n2 hnew (by simp [Value.oneCell']) (by rw [hlen]; unfold bound at hb; unfold maxLen; omega) (by rw [hlen]; unfold bound at hb; omega) (by have := hb6.size; omega)
      have hu5 : (w5.alloc (.cells #[.int .i64 k.1, .int .i64 k.2.kind, .slice A5 k.2.links.length k5] 50 (0, 0))).ownsRow w3.heap.size 42 3 (.slice A5 k.2.links.length k5) k.2.links.length (cells3 k.2.links) := (row_same HR5.out (SameOn.of_below (S := fun _ => True) (below_alloc (Below.refl _ _) _)) (fun _ _ => trivial)).mono hszr
      have hpush := NodesAt.push (x := k) n1 ho7 n3 hu5 n2 hg7
      rw [← HK.out, ← List.take_succ_eq_append_getElem hlt] at hpush
      have HPUSH := Aside0.mk hpush
      have HR7 := Aside0.mk hr7
      have HB7 : Aside0 (Below w3.heap.size w3 w7) := ⟨(HS.out.trans (hb6.mono hszr)).grown hg7 (by have := hb6.size; omega) (own_base n2)⟩
      clear hb5 hb6 n1 n2 n3 hnew ho7 hg7 hu5 hpush hr7
      refine last_ (i := 10) (N := some 37) (bb 12 2047) rfl rfl (by kernel_rfl) (by decide) (fun K hK => ?_)
      refine step_append rfl (.tmp 27) (.tmp 36) 46 rfl rfl rfl HR7.out ?_
      refine hK.out _ _ ?_
      clear hK K
      refine norm_ (a' := ?_) ?_ ?_
      rotate_left
      · show Act.put _ (some 37) _ = _
        simp only [Act.put, sa, sz, ss, i64_w, i32_w]
        rfl
      refine pure_ (i := 11) (N := some 3) (v := ?_) (a' := ?_) (bb 12 4095) rfl rfl (by kernel_rfl) (fun _ _ _ h => h) (Or.inl ⟨by rfl, ?_⟩) ?_ ?_
      rotate_left
      · intro w'
        go_simp
        with_reducible rfl
      rotate_left
      · simp only [Act.put, sa, sz, ss, i64_w, i32_w]
        rfl
      refine done_ (by kernel_rfl) ?_
      go_wp2
      go_roundg (gk - 1)
      case measure => have := HI.out; omega
      case rel => exact ⟨i + 1, by first | rfl | (rw [hw1]; rfl), ⟨by omega, by have := HI.out; omega⟩, HPUSH, HB7⟩
    · have hi : i = G.objs.length := by have := HI.out; omega
      have q2 : decide ((i : Int) < (G.objs.length : Int)) = false := decide_eq_false (by omega)
      have q1 : ((i : Int) < (G.objs.length : Int)) = False := eq_false (by omega)
      go_wp2
      go_ret
      have hr := HOUT.out
      rw [List.take_of_length_le (by omega)] at hr
      exact ⟨_, rfl, hr.mono (by omega), HBW.out.trans (HS.out.mono HBW.out.size)⟩
end
end Go.Proofs.YthifdofdoeaemaaGreatDoor.Wk
end
section
namespace Go.Proofs.YthifdofdoeaemaaGreatDoor.Wk
open Go.RowKit Go.Proofs.YthifdofdoeaemaaGreatDoorW.PrintWords Go.Proofs.YthifdofdoeaemaaGreatDoorW.PrintLast Go.Proofs.YthifdofdoeaemaaGreatDoorW.PrintMore
attribute [local go_sem] max2_int min2_int max_two min_two max_three min_three max_four min_four
set_option linter.unusedVariables false
set_option linter.unusedSimpArgs false
section
open Go.RowKit Go.Lib Go.Maps Go.Proofs.YthifdofdoeaemaaGreatDoorQ
attribute [local go_sem] Oper.semAt_some
def kindG (G : GS) (id : Int) : Int × Int := match G.at id with
  | none => (0, 10)
  | some x => (x.kind, 0)
set_option maxHeartbeats 4000000 in
set_option maxRecDepth 100000 in
theorem kind_calls (B : GB) (G : GS) (id : Int) (w : World) (hG : GraphAt w B G) (hw : (Lit.int .i64 id).wf = true) :
    Calls Tryz.prog 26 #[.pointer (some ⟨B.g, 0, none⟩), .int .i64 id] w fun ev w' => ev = .returned (.tuple #[.int .i64 (kindG G id).1, .int .i64 (kindG G id).2]) ∧ w' = w := by
  have HG := Aside0.mk hG
  have c1 := hG.c1
  have hlk := hG.look id (Tryz.zeroValue75 w) (key_int id hw)
  unfold kindG
  cases ho : G.at id with
  | none =>
    rw [ho] at hlk
    simp only at hlk
    clear hG ho
    go_enter Tryz.func26, Tryz.ntmps26
    go_wp2_with (go_at_call 39; refine (good_calls B G _ HG.out).mono ?_; rintro e_ w1 ⟨rfl, rfl⟩)
    go_ret2
    exact ⟨rfl, rfl⟩
  | some x =>
    rw [ho] at hlk
    simp only at hlk
    have o0 : w.cell? ⟨B.ob id, 0, none⟩ = some (.int .i64 x.kind) := (hG.obj ho).c0
    clear hG ho
    go_enter Tryz.func26, Tryz.ntmps26
    go_wp2_with (go_at_call 39; refine (good_calls B G _ HG.out).mono ?_; rintro e_ w1 ⟨rfl, rfl⟩)
    go_ret2
    exact ⟨rfl, rfl⟩
set_option maxHeartbeats 4000000 in
set_option maxRecDepth 100000 in
theorem next_calls (B : GB) (G : GS) (w : World) (hG : GraphAt w B G) :
    Calls Tryz.prog 24 #[.pointer (some ⟨B.g, 0, none⟩)] w fun ev w' => ev = .returned (.int .i64 G.next) ∧ w' = w := by
  have HG := Aside0.mk hG
  have c0 := hG.c0
  clear hG
  go_enter Tryz.func24, Tryz.ntmps24
  go_wp2_with (go_at_call 39; refine (good_calls B G _ HG.out).mono ?_; rintro e_ w1 ⟨rfl, rfl⟩)
  go_ret
  exact ⟨rfl, rfl⟩
def holdG (G : GS) (id : Int) : Option (Int × GS) := match G.at id with
  | none => some (10, G)
  | some x => if -4611686018427387904 < x.held ∧ x.held < 4611686018427387904 then some (0, { G with objs := setO G.objs id (fun o => { o with held := o.held + 1 }) }) else none
set_option maxHeartbeats 4000000 in
set_option maxRecDepth 100000 in
theorem hold_calls (B : GB) (G : GS) (id : Int) (w : World) (hG : GraphAt w B G) (hw : (Lit.int .i64 id).wf = true) (e : Int) (G2 : GS) (h : holdG G id = some (e, G2)) :
    Calls Tryz.prog 25 #[.pointer (some ⟨B.g, 0, none⟩), .int .i64 id] w fun ev w' => ev = .returned (.int .i64 e) ∧ GraphAt w' B G2 ∧ SameOn (fun k => ¬ foot B G k) w w' := by
  have HG := Aside0.mk hG
  have HW := Aside0.mk hw
  have c1 := hG.c1
  have hlk := hG.look id (Tryz.zeroValue75 w) (key_int id hw)
  unfold holdG at h
  cases ho : G.at id with
  | none =>
    rw [ho] at hlk h
    simp only at hlk
    have HK := Aside0.mk (show kindG G id = (0, 10) by unfold kindG; rw [ho])
    cases h
    clear hG ho hw
    go_enter Tryz.func25, Tryz.ntmps25
    go_wp2_with (go_at_call 26; refine (kind_calls B G id _ HG.out HW.out).mono ?_; rintro e_ w1 ⟨rfl, rfl⟩; rw [HK.out])
    go_ret
    exact ⟨rfl, HG.out, SameOn.refl _ _⟩
  | some x =>
    rw [ho] at hlk h
    simp only at hlk h
    by_cases hb : -4611686018427387904 < x.held ∧ x.held < 4611686018427387904
    rotate_left
    · rw [if_neg hb] at h; cases h
    rw [if_pos hb] at h
    cases h
    have HK := Aside0.mk (show kindG G id = (x.kind, 0) by unfold kindG; rw [ho])
    have hwh : wrap64 (x.held + 1) = x.held + 1 := by obtain ⟨h1, h2⟩ := hb; unfold wrap64; omega
    have o3 : w.cell? ⟨B.ob id, 3, none⟩ = some (.int .i64 x.held) := (hG.obj ho).c3
    have f3 : w.frozen? ⟨B.ob id, 3, none⟩ = false := blk_frozen (hG.obj ho).1 3
    have HO := Aside0.mk ho
    clear hG ho hw hb
    go_enter Tryz.func25, Tryz.ntmps25
    go_wp2_with (go_at_call 26; refine (kind_calls B G id _ HG.out HW.out).mono ?_; rintro e_ w1 ⟨rfl, rfl⟩; rw [HK.out])
    go_ret
    refine ⟨rfl, HG.out.turnO HO.out _ ⟨(blk_set (HG.out.obj HO.out).1 3 _).trans rfl, own_same (HG.out.obj HO.out).2 (Below.heap_setCell _ _ _ _ (HG.out.ob_lb (at_mem HO.out) (at_mem HO.out)).symm)⟩ (fun k _ hk _ _ => Below.heap_setCell _ _ _ _ hk), SameOn.setCell _ _ _ (fun hn => hn (.inr (.inr ⟨_, at_mem HO.out, .inl rfl⟩)))⟩
end
end Go.Proofs.YthifdofdoeaemaaGreatDoor.Wk
end
section
namespace Go.Proofs.YthifdofdoeaemaaGreatDoor.Wk
open Go.RowKit Go.Proofs.YthifdofdoeaemaaGreatDoorW.PrintWords Go.Proofs.YthifdofdoeaemaaGreatDoorW.PrintLast Go.Proofs.YthifdofdoeaemaaGreatDoorW.PrintMore
attribute [local go_sem] max2_int min2_int max_two min_two max_three min_three max_four min_four
set_option linter.unusedVariables false
set_option linter.unusedSimpArgs false
section
open Go.RowKit Go.Lib Go.Maps Go.Proofs.YthifdofdoeaemaaGreatDoorQ
attribute [local go_sem] Oper.semAt_some
theorem nodeC_at : ∀ (l : List (Int × GO)) (sl : List Value) (i j : Nat) (x : Int × GO) (u : Value), l[i]? = some x → sl[i]? = some u → j < 3 → (nodeC l sl)[i * 3 + j]? = [Value.int .i64 x.1, .int .i64 x.2.kind, u][j]?
  | [], sl, i, j, x, u, h, hu, hj => by simp at h
  | a :: t, [], i, j, x, u, h, hu, hj => by simp at hu
  | a :: t, b :: sl, 0, j, x, u, h, hu, hj => by
    obtain rfl : a = x := by simpa using h
    obtain rfl : b = u := by simpa using hu
    match j, hj with
    | 0, _ => rfl
    | 1, _ => rfl
    | 2, _ => rfl
  | a :: t, b :: sl, i + 1, j, x, u, h, hu, hj => by
    rw [← nodeC_at t sl i j x u (by simpa using h) (by simpa using hu) hj, show (i + 1) * 3 + j = i * 3 + j + 1 + 1 + 1 by omega]
    rfl
theorem node_at {w : World} {base n c : Nat} {A : Option Addr} {l : List (Int × GO)} {sl : List Value} (h : w.ownsRow base 50 3 (.slice A n c) n (nodeC l sl)) (hn : n = l.length) {i : Nat} {x : Int × GO} {u : Value} (hx : l[i]? = some x) (hu : sl[i]? = some u) :
    ∃ g, A = some ⟨g, 0, none⟩ ∧ base ≤ g ∧ w.rangeAt g (i * 3) [.int .i64 x.1, .int .i64 x.2.kind, u] := by
  have hi : i < l.length := (List.getElem?_eq_some_iff.1 hx).1
  rcases h.2 with ⟨_, rfl⟩ | ⟨g, cap, cur, hv, hb, _⟩
  · omega
  · have hA : A = some ⟨g, 0, none⟩ := by cases hv; rfl
    subst hA
    refine ⟨g, rfl, hb, fun j v hj => ?_⟩
    have hj3 : j < 3 := by have := (List.getElem?_eq_some_iff.1 hj).1; simpa using this
    rw [h.cellAt (i * 3 + j) (by omega), nodeC_at l sl i j x u hx hu hj3]
    exact hj
theorem nodes_read {w : World} {base : Nat} {v : Value} {l : List (Int × GO)} (h : NodesAt w base v l) (h0 : 0 < l.length) : ∃ (g k : Nat) (sl : List Value), v = .slice (some ⟨g, 0, none⟩) l.length k ∧ sl.length = l.length ∧ g < w.heap.size ∧
    (∀ i x, l[i]? = some x → ∃ A c, sl[i]? = some (.slice A x.2.links.length c) ∧ w.cell? ⟨g, i * 3, none⟩ = some (.int .i64 x.1) ∧ w.cell? ⟨g, i * 3 + 1, none⟩ = some (.int .i64 x.2.kind) ∧ w.cell? ⟨g, i * 3 + 2, none⟩ = some (.slice A x.2.links.length c) ∧
      ∀ j y, x.2.links[j]? = some y → ∃ gl, A = some ⟨gl, 0, none⟩ ∧ gl < w.heap.size ∧ w.rangeAt gl (j * 3) [.string y.1, .int .i64 y.2.1, .string y.2.2]) := by
  obtain ⟨sl, h1, h2, h3⟩ := h
  obtain ⟨A, k, rfl⟩ := own_sl3 h2
  obtain ⟨x0, hx0⟩ : ∃ x0, l[0]? = some x0 := ⟨_, List.getElem?_eq_getElem h0⟩
  obtain ⟨u0, hu0⟩ : ∃ u0, sl[0]? = some u0 := ⟨_, List.getElem?_eq_getElem (by omega)⟩
  obtain ⟨g, rfl, -, hr0⟩ := node_at h2 rfl hx0 hu0
  refine ⟨g, k, sl, rfl, h1, World.block_lt_of_cell? w _ (hr0 0 _ rfl), fun i x hx => ?_⟩
  have hi : i < l.length := (List.getElem?_eq_some_iff.1 hx).1
  obtain ⟨u, hu⟩ : ∃ u, sl[i]? = some u := ⟨_, List.getElem?_eq_getElem (by omega)⟩
  have hl := h3 i x u hx hu
  obtain ⟨A, c, rfl⟩ := own_sl3 hl
  obtain ⟨g', hg', -, hr⟩ := node_at h2 rfl hx hu
  obtain rfl : g = g' := by simpa using hg'
  refine ⟨A, c, hu, hr 0 _ rfl, hr 1 _ rfl, hr 2 _ rfl, fun j y hy => ?_⟩
  obtain ⟨gl, hA, -, hrl⟩ := link_at hl rfl hy
  exact ⟨gl, hA, World.block_lt_of_cell? w _ (hrl 0 _ rfl), hrl⟩
end
end Go.Proofs.YthifdofdoeaemaaGreatDoor.Wk
end
section
namespace Go.Proofs.YthifdofdoeaemaaGreatDoor.Wk
open Go.RowKit Go.Proofs.YthifdofdoeaemaaGreatDoorW.PrintWords Go.Proofs.YthifdofdoeaemaaGreatDoorW.PrintLast Go.Proofs.YthifdofdoeaemaaGreatDoorW.PrintMore
attribute [local go_sem] max2_int min2_int max_two min_two max_three min_three max_four min_four
set_option linter.unusedVariables false
set_option linter.unusedSimpArgs false
section
open Go.RowKit Go.Lib Go.Maps Go.Proofs.YthifdofdoeaemaaGreatDoorQ
attribute [local go_sem] Oper.semAt_some
def readI : Value → Option (DataW Unit × List MemPlace)
  | .int .i64 x => some (.lit (.int .i64 x), [])
  | _ => none
theorem readI_inv {v : Value} {x : Int} {p : List MemPlace} (h : readI v = some (.lit (.int .i64 x), p)) : v = .int .i64 x := by
  unfold readI at h
  split at h
  · rename_i y
    simp only [Option.some.injEq, Prod.mk.injEq, DataW.lit.injEq, Lit.int.injEq, true_and] at h
    rw [h.1]
  · cases h
abbrev ones : Int → Nat := fun _ => 1
def SeenAt (W : World) (b : Nat) (S : List (Int × GO)) : Prop := W.ownsMap Tryz.prog 3 readI b S.length (.map (S.map (encO ones)))
theorem SeenAt.look {W : World} {b : Nat} {S : List (Int × GO)} (h : SeenAt W b S) (id : Int) (hw : (Lit.int .i64 id).wf = true) :
    (Instr.lookup 100 (.map (some b)) (.int .i64 id) false).run Tryz.prog W = .ok (.int .i64 (match (GS.mk 0 0 S).at id with | some _ => 1 | none => 0)) W := by
  obtain ⟨v, ps, hrun, hv⟩ := h.lookup (int_keyed Tryz.underlying3) Tryz.underlying100 (Tryz.zeroValue3 W) (zd := .lit (.int .i64 0)) (zp := []) rfl (keyOf_int_mk Tryz.underlying3 hw)
  rw [show (Lit.int .i64 id) = keyO id from rfl, show (DataW.map (S.map (encO ones))) = DataW.map ((GS.mk 0 0 S).objs.map (encO ones)) from rfl, atKey_O] at hv
  rw [hrun]
  cases ha : (GS.mk 0 0 S).at id with
  | none =>
    rw [ha] at hv
    rw [readI_inv hv]
  | some o =>
    rw [ha] at hv
    rw [readI_inv hv]
    rfl
theorem SeenAt.put {W : World} {b : Nat} {S : List (Int × GO)} (h : SeenAt W b S) (id : Int) (hw : (Lit.int .i64 id).wf = true) (hl : S.length < bound) :
    ∃ W', (Instr.mapUpdate 100 (.map (some b)) (.int .i64 id) (.int .i64 1)).run Tryz.prog W = .ok () W' ∧ SeenAt W' b (seenP S id) ∧ SameOn (fun k => k ≠ b) W W' := by
  obtain ⟨W', hr, hW, hg⟩ := World.ownsMap.update h (t := 100) (e := 3) (int_keyed Tryz.underlying3) Tryz.underlying100 (Nat.lt_trans hl (by decide)) (keyOf_int_mk Tryz.underlying3 hw) (val := .int .i64 1) (d := .lit (.int .i64 1)) (ps := []) rfl
  have hp := put_O ones S (id, newO 0)
  simp only at hp
  rw [show (DataW.lit (Lit.int .i64 ((ones id : Nat) : Int)) : DataW Unit) = .lit (.int .i64 1) from rfl] at hp
  have hp' : (DataW.map (S.map (encO ones))).put (keyO id) (.lit (.int .i64 1)) = .map ((seenP S id).map (encO ones)) := hp
  rw [show (Lit.int .i64 id) = keyO id from rfl, hp'] at hW
  have hW2 := own_tight hW
  rw [List.length_map] at hW2
  exact ⟨W', hr, hW2, ⟨hg.size, fun k h1 h2 => hg.block k h2 (fun e => h1 (by injection e)), hg.os, hg.tape, hg.output⟩⟩
theorem SeenAt.step {W W' : World} {b : Nat} {S : List (Int × GO)} (h : SeenAt W b S) (hs : W'.heap[b]? = W.heap[b]?) : SeenAt W' b S := own_same h hs
theorem seen_new (w : World) : SeenAt (w.alloc (.map #[] 0)) w.heap.size [] := World.ownsMap_made w _ _ _
theorem wpList_append_run {P : Program} {W W1 : World} {ops : Array Oper} {rest : List Oper} {o : Oper} {a : Act} {Q : Exit → Act → World → Prop} (hgd : o.guard = none) (s x : Operand) (t : TypeId)
    (ho : o.op = Op.call { callee := Callee.builtin Builtin.append, args := #[s, x], argTypes := #[t, t] }) {vs vx vr : Value} (hs : a.eval s = vs) (hx : a.eval x = vx)
    (hr : (Builtin.append_ #[t, t] o.type #[vs, vx]).run P W = .ok vr W1) (hK : wpList P ops Q rest (a.put o.dst vr) W1) : wpList P ops Q (o :: rest) a W := by
  refine wpList_plain hgd fun K hK' => ?_
  unfold Oper.wp
  simp [execOp, ho, resolve, invoke, builtin, hs, hx, hr, Result.andThen]
  exact hK' _ _ hK
theorem wrap_ok9 (a : Int) (h0 : -4611686018427387904 ≤ a) (h1 : a < 4611686018427387904) : wrap64 a = a := by unfold wrap64; omega
set_option maxHeartbeats 8000000 in
set_option maxRecDepth 100000 in
theorem reached_calls (B : GB) (G : GS) (w : World) (hG : GraphAt w B G) (hcl : Closed G) (h1 : has G.objs 1) (hb : G.objs.length ≤ 1000) (hlb : ∀ x ∈ G.objs, x.2.links.length ≤ bound) :
    Calls Tryz.prog 52 #[.pointer (some ⟨B.g, 0, none⟩)] w fun e w' => ∃ b S, e = .returned (.map (some b)) ∧ w.heap.size ≤ b ∧ SeenAt w' b S ∧ Asc S ∧ (∀ x, has S x ↔ Rch G x) ∧ Below w.heap.size w w' := by
  have HG := Aside0.mk hG
  have HCL := Aside0.mk hcl
  have H1 := Aside0.mk h1
  have HB := Aside0.mk hb
  have HLB := Aside0.mk hlb
  obtain ⟨W1, hr1, hS1, hs1⟩ := (seen_new w).put 1 (by decide) (by decide)
  have hz1 : w.heap.size + 1 ≤ W1.heap.size := by have := hs1.size; simpa using this
  have HBW1 : Aside0 (Below w.heap.size w W1) := ⟨(below_alloc (Below.refl _ _) _).trans (hs1.below (fun k hk => by omega) (by simp))⟩
  have hS1' : SeenAt W1 w.heap.size [(1, newO 0)] := hS1
  have HS1 := Aside0.mk hS1'
  have HZ1 := Aside0.mk hz1
  clear hG hcl h1 hb hlb hS1 hS1' hs1 hz1
  go_enter Tryz.func52, Tryz.ntmps52
  have hmk : ∀ t w, (Instr.makeMap t none).run Tryz.prog w = .ok (.map (some w.heap.size)) (w.alloc (.map #[] 0)) := fun _ _ => rfl
  go_wp2
  obtain ⟨wb, hwb⟩ : ∃ wb, wb = w.heap.size := ⟨_, rfl⟩
  rw [← hwb]
  have HWB := Aside0.mk hwb
  have HT0 := Aside0.mk (tail_lit W1 1)
  have HBW2 : Aside0 (Below w.heap.size w (W1.alloc (.cells #[.int .i64 1] 3 (0, 0)))) := ⟨HBW1.out.trans ((below_alloc (Below.refl _ _) _).mono HBW1.out.size)⟩
  have HS2 : Aside0 (SeenAt (W1.alloc (.cells #[.int .i64 1] 3 (0, 0))) wb [(1, newO 0)]) := ⟨by rw [HWB.out]; exact HS1.out.step (Below.heap_alloc _ _ _ (by have := HZ1.out; omega))⟩
  obtain ⟨ts, hts⟩ : ∃ ts, ts = W1.heap.size := ⟨_, rfl⟩
  rw [← hts]
  have HTS : Aside0 (wb < ts) := ⟨by have := HZ1.out; have := HWB.out; omega⟩
  rw [← hts] at HT0
  obtain ⟨i0, hi0, hz0, hz1, hz2⟩ := info_parts (P := Tryz.prog) (e := 3) (z := .int .i64 0) (size := 1) (bytes := 8) (by kernel_rfl)
  have HIN := Aside0.mk hi0
  have HZ := Aside0.mk (And.intro hz0 (And.intro hz1 hz2))
  clear hwb hr1 hts hi0 hz0 hz1 hz2
  go_loopg [4] 1000 (fun kq v4 W => ∃ (T : List Int) (S : List (Int × GO)), Aside0 (TailAt W ts v4 T) ∧ Aside0 (Srch G S T) ∧ Aside0 (SeenAt W wb S) ∧ Aside0 (Below w.heap.size w W) ∧ Aside0 (G.objs.length + T.length ≤ kq + S.length))
  case atStart => exact ⟨[1], [(1, newO 0)], HT0, ⟨srch_new H1.out⟩, HS2, HBW2, ⟨by have := HB.out; simp; omega⟩⟩
  case round =>
    obtain ⟨T, S, HT, HSR, HSE, HBW, HM⟩ := hrel
    cases T with
    | nil =>
      obtain ⟨b, off, cap, cs, hv, -⟩ := HT.out
      subst hv
      go_wp2
      go_ret
      exact ⟨wb, S, rfl, by have := HWB.out; omega, HSE.out, HSR.out.asc, srch_all HSR.out, HBW.out⟩
    | cons t T =>
      obtain ⟨gm, rfl⟩ : ∃ gm, gk = gm + 1 := ⟨gk - 1, by have := HM.out; have := (srch_len HSR.out).1; simp only [List.length_cons] at *; omega⟩
      obtain ⟨b, off, cap, hv, hcap, hcell, htl⟩ := HT.out.head
      subst hv
      obtain ⟨o, ho⟩ := HSR.out.objs t (HSR.out.todo t (by simp))
      have hGr : GraphAt wr B G := HG.out.below HBW.out
      have hat : G.at t = some o := at_of_mem HG.out.asc ho
      have c1 : wr.cell? ⟨B.g, 1, none⟩ = some (.map (some B.mb)) := hGr.c1
      have hlk := hGr.lookAt hat
      have HAT := Aside0.mk hat
      have HO := Aside0.mk ho
      have HTL := Aside0.mk htl
      have HGR := Aside0.mk hGr
      have hlen := srch_len HSR.out
      have HLEN := Aside0.mk hlen
      have n1 : decide ((0 : Int) < ((T.length + 1 : Nat) : Int)) = true := decide_eq_true (by omega)
      have n2 : decide ((0 : Int) < (T.length : Int) + 1) = true := decide_eq_true (by omega)
      have n3 : ((0 : Int) < (T.length : Int) + 1) = True := eq_true (by omega)
      have n4 : ((0 : Int) < ((T.length + 1 : Nat) : Int)) = True := eq_true (by omega)
      clear hGr hat ho htl hlen
      go_upto_region 5 with (fail)
      have hS : wr.drew.cell? ⟨B.g, 1, none⟩ = some (.map (some B.mb)) ∧ wr.drew.cell? ⟨b, off, none⟩ = some (.int .i64 t) ∧ (Instr.lookup 71 (.map (some B.mb)) (.int .i64 t) false).run Tryz.prog wr.drew = .ok (.pointer (some ⟨B.ob t, 0, none⟩)) wr.drew ∧ GraphAt wr.drew B G ∧ Below wr.heap.size wr wr.drew :=
        ⟨c1, hcell, (HGR.out.below (below_drew (Below.refl _ _))).lookAt HAT.out, HGR.out.below (below_drew (Below.refl _ _)), below_drew (Below.refl _ _)⟩
      refine start_ (n := 11) (S := fun W' => W'.cell? ⟨B.g, 1, none⟩ = some (.map (some B.mb)) ∧ W'.cell? ⟨b, off, none⟩ = some (.int .i64 t) ∧ (Instr.lookup 71 (.map (some B.mb)) (.int .i64 t) false).run Tryz.prog W' = .ok (.pointer (some ⟨B.ob t, 0, none⟩)) W' ∧ GraphAt W' B G ∧ Below wr.heap.size wr W') (ds := [8]) #[false, false, false, false, false, false, false, false, false, false, false] (by kernel_rfl) rfl rfl hS (fun hHeld => ?_)
      refine pure_ (i := 0) (N := some 15) (v := ?_) (a' := ?_) (bb 11 1) rfl rfl (by kernel_rfl) (fun _ _ _ h => h) (Or.inl ⟨by rfl, ?_⟩) ?_ ?_
      rotate_left
      · intro w'
        go_simp
        with_reducible rfl
      rotate_left
      · simp only [Act.put, sa, sz, ss, i64_w, i32_w]
        rfl
      refine pure_ (i := 1) (N := some 16) (v := ?_) (a' := ?_) (bb 11 3) rfl rfl (by kernel_rfl) (fun _ _ _ h => h) (Or.inl ⟨by rfl, ?_⟩) ?_ ?_
      rotate_left
      · intro w'
        go_simp
        with_reducible rfl
      rotate_left
      · simp only [Act.put, sa, sz, ss, i64_w, i32_w]
        rfl
      refine pure_ (i := 2) (N := some 17) (v := ?_) (a' := ?_) (bb 11 7) rfl rfl (by kernel_rfl) (fun _ _ _ h => h) (Or.inl ⟨by rfl, ?_⟩) ?_ ?_
      rotate_left
      · intro w'
        go_simp
        with_reducible rfl
      rotate_left
      · simp only [Act.put, sa, sz, ss, i64_w, i32_w]
        rfl
      refine take_ (i := 3) (N := some 18) (v := ?_) (a' := ?_) (bb 11 15) rfl rfl (by kernel_rfl) (fun _ _ _ h => h) (Or.inl ⟨by rfl, ?_⟩) hHeld ?_ ?_
      rotate_left
      · rintro w' ⟨s1_, s2_, s3_, s4_, s5_⟩
        go_simp
        with_reducible rfl
      rotate_left
      · simp only [Act.put, sa, sz, ss, i64_w, i32_w]
        rfl
      refine pure_ (i := 4) (N := some 19) (v := ?_) (a' := ?_) (bb 11 31) rfl rfl (by kernel_rfl) (fun _ _ _ h => h) (Or.inl ⟨by rfl, ?_⟩) ?_ ?_
      rotate_left
      · intro w'
        go_simp
        with_reducible rfl
      rotate_left
      · simp only [Act.put, sa, sz, ss, i64_w, i32_w]
        rfl
      refine pure_ (i := 5) (N := some 20) (v := ?_) (a' := ?_) (bb 11 63) rfl rfl (by kernel_rfl) (fun _ _ _ h => h) (Or.inl ⟨by rfl, ?_⟩) ?_ ?_
      rotate_left
      · intro w'
        go_simp
        with_reducible rfl
      rotate_left
      · simp only [Act.put, sa, sz, ss, i64_w, i32_w]
        rfl
      refine take_ (i := 6) (N := some 21) (v := ?_) (a' := ?_) (bb 11 127) rfl rfl (by kernel_rfl) (fun _ _ _ h => h) (Or.inl ⟨by rfl, ?_⟩) hHeld ?_ ?_
      rotate_left
      · rintro w' ⟨s1_, s2_, s3_, s4_, s5_⟩
        go_simp
        with_reducible rfl
      rotate_left
      · simp only [Act.put, sa, sz, ss, i64_w, i32_w]
        rfl
      refine take_ (i := 7) (N := some 22) (v := ?_) (a' := ?_) (bb 11 255) rfl rfl (by kernel_rfl) (fun _ _ _ h => h) (Or.inl ⟨by rfl, ?_⟩) hHeld ?_ ?_
      rotate_left
      · rintro w' ⟨s1_, s2_, s3_, s4_, s5_⟩
        go_simp
        with_reducible rfl
      rotate_left
      · simp only [Act.put, sa, sz, ss, i64_w, i32_w]
        rfl
      refine pure_ (i := 10) (N := some 25) (v := ?_) (a' := ?_) (bb 11 1279) rfl rfl (by kernel_rfl) (fun _ _ _ h => h) (Or.inl ⟨by rfl, ?_⟩) ?_ ?_
      rotate_left
      · intro w'
        go_simp
        with_reducible rfl
      rotate_left
      · simp only [Act.put, sa, sz, ss, i64_w, i32_w]
        rfl
      refine last_ (i := 8) (N := some 23) (bb 11 1535) rfl rfl (by kernel_rfl) (by decide) (fun K hK => ?_)
      skip
      refine goes_ Tryz.func47 (by kernel_rfl) rfl #[.pointer (some ⟨B.ob t, 0, none⟩)] (by rfl) rfl rfl (by (simp only [List.map_toArray, List.map_cons, List.map_nil]); rfl) ?_
      refine (list_calls B G t o _ hHeld.2.2.2.1 HAT.out (HLB.out _ HO.out)).mono ?_
      rintro e_ w5 ⟨v5, rfl, hr5, hb5⟩
      obtain ⟨A5, k5, rfl⟩ := own_sl3 hr5
      refine ⟨_, rfl, ?_⟩
      refine hK.out _ _ ?_
      clear hK K
      refine norm_ (a' := ?_) ?_ ?_
      rotate_left
      · show Act.put _ (some 23) _ = _
        simp only [Act.put, sa, sz, ss, i64_w, i32_w]
        rfl
      have HB5 := Aside0.mk (hHeld.2.2.2.2.trans (hb5.mono hHeld.2.2.2.2.size))
      have HR5 := Aside0.mk (hr5.mono hHeld.2.2.2.2.size)
      clear hr5 hb5 hS
      refine pure_ (i := 9) (N := some 24) (v := ?_) (a' := ?_) (bb 11 2047) rfl rfl (by kernel_rfl) (fun _ _ _ h => h) (Or.inl ⟨by rfl, ?_⟩) ?_ ?_
      rotate_left
      · intro w'
        go_simp
        with_reducible rfl
      rotate_left
      · simp only [Act.put, sa, sz, ss, i64_w, i32_w]
        rfl
      refine done_ (by kernel_rfl) ?_
      clear c1 hlk hcell n1 n2 n3 n4
      obtain ⟨rb, hrb⟩ : ∃ rb, rb = wr.heap.size := ⟨_, rfl⟩
      rw [← hrb] at HR5
      have HRBE := Aside0.mk hrb
      clear hrb hHeld
      go_wp2
      go_loopg [25, 4] o.links.length (fun kq v25 v4 W => ∃ (j : Nat) (jv : Int) (T1 : List Int) (S1 : List (Int × GO)), v25 = .int .i64 jv ∧ Aside0 (jv = (j : Int)) ∧ Aside0 (j ≤ o.links.length ∧ o.links.length - j ≤ kq) ∧ Aside0 (TailAt W ts v4 (t :: T1)) ∧ Aside0 (Srch1 G S1 t T1 (o.links.take j)) ∧ Aside0 (SeenAt W wb S1) ∧ Aside0 (Below w.heap.size w W) ∧ Aside0 (W.ownsRow rb 42 3 (.slice A5 o.links.length k5) o.links.length (cells3 o.links)) ∧ Aside0 (S.length + T1.length = S1.length + T.length))
      case atStart => exact ⟨0, 0, T, S, rfl, ⟨rfl⟩, ⟨by omega, by omega⟩, ⟨HT.out.below HB5.out⟩, ⟨srch_open HSR.out⟩, ⟨HSE.out.step (HB5.out.block _ (HSE.out.lt))⟩, ⟨HBW.out.trans (HB5.out.mono HBW.out.size)⟩, HR5, ⟨rfl⟩⟩
      case round =>
        obtain ⟨j, jv, T1, S1, rfl, HJV, HJ, HT1, HSR1, HSE1, HBW1, HR1, HM1⟩ := hrel
        by_cases hlt : j < o.links.length
        · obtain ⟨z, hz⟩ : ∃ z, o.links[j]'hlt = z := ⟨_, rfl⟩
          obtain ⟨g5, hA5, hg5, hrg⟩ := link_at HR1.out rfl (show o.links[j]? = some z by rw [List.getElem?_eq_getElem hlt, hz])
          subst hA5
          have k0 : wr.cell? ⟨g5, j * 3, none⟩ = some (.string z.1) := hrg 0 _ rfl
          have k1 : wr.cell? ⟨g5, j * 3 + 1, none⟩ = some (.int .i64 z.2.1) := hrg 1 _ rfl
          have k2 : wr.cell? ⟨g5, j * 3 + 2, none⟩ = some (.string z.2.2) := hrg 2 _ rfl
          have q1 : decide (jv < (o.links.length : Int)) = true := decide_eq_true (by have := HJV.out; omega)
          have q2 : (jv < (o.links.length : Int)) = True := eq_true (by have := HJV.out; omega)
          have q3 : (0 : Int) ≤ jv := by have := HJV.out; omega
          have q4 : jv.toNat = j := by have := HJV.out; omega
          go_upto_region 8 with (fail)
          obtain ⟨W2, hW2⟩ : ∃ W2, W2 = wr.alloc (.cells #[.string z.1, .int .i64 z.2.1, .string z.2.2] 42 (0, 0)) := ⟨_, rfl⟩
          have hb2 : Below wr.heap.size wr W2 := by rw [hW2]; exact below_alloc (Below.refl _ _) _
          have hblk : W2.heap[wr.heap.size]? = some (.cells #[.string z.1, .int .i64 z.2.1, .string z.2.2] 42 (0, 0)) := by rw [hW2]; exact World.alloc_heap_new _ _
          have c20 : W2.cell? ⟨wr.heap.size, 1, none⟩ = some (.int .i64 z.2.1) := (blk_cell hblk 1).trans rfl
          rw [← hW2]
          have HB2 := Aside0.mk hb2
          have HBLK := Aside0.mk hblk
          have HZM : Aside0 (z ∈ o.links) := ⟨hz ▸ List.getElem_mem hlt⟩
          have HTK : Aside0 (o.links.take (j + 1) = o.links.take j ++ [z]) := ⟨by rw [List.take_succ_eq_append_getElem hlt, hz]⟩
          have HLT := Aside0.mk hlt
          have HT2 := Aside0.mk (HT1.out.below hb2)
          have HSE2 := Aside0.mk (HSE1.out.step (hb2.block _ HSE1.out.lt))
          have HBW2_ := Aside0.mk (HBW1.out.trans (hb2.mono HBW1.out.size))
          have HR2 := Aside0.mk (row_same HR1.out (SameOn.of_below (S := fun _ => True) hb2) (fun _ _ => trivial))
          have w1_ : wrap64 (jv + 1) = jv + 1 := wrap_ok9 _ (by omega) (by have := HJV.out; have := HLB.out _ HO.out; unfold bound at this; simp only at this; omega)
          clear k0 k1 k2 hrg hg5 hb2 hblk hz hlt q1 q2 q3 q4 hW2
          by_cases hpos : 0 < z.2.1
          rotate_left
          · have r1 : decide (0 < z.2.1) = false := decide_eq_false hpos
            have HNP := Aside0.mk hpos
            clear hpos
            go_wp2
            go_roundg (gk - 1)
            case measure => have := HJ.out; have := HLT.out; omega
            case rel => exact ⟨j + 1, jv + 1, T1, S1, by first | rfl | rw [w1_], ⟨by have := HJV.out; omega⟩, ⟨by have := HLT.out; omega, by have := HJ.out; omega⟩, HT2, ⟨by rw [HTK.out]; exact srch_old HSR1.out (fun h => absurd h (by have := HNP.out; omega))⟩, HSE2, HBW2_, HR2, HM1⟩
          have r1 : decide (0 < z.2.1) = true := decide_eq_true hpos
          have HP := Aside0.mk hpos
          have hwf : (Lit.int .i64 z.2.1).wf = true := by
            obtain ⟨t', ht'⟩ := HCL.out _ HO.out z HZM.out hpos
            exact HG.out.ids _ ht'
          have hlk2 := HSE2.out.look z.2.1 hwf
          clear hpos
          cases ha : (GS.mk 0 0 S1).at z.2.1 with
          | some oo =>
            rw [ha] at hlk2
            simp only at hlk2
            have HHAS : Aside0 (has S1 z.2.1) := ⟨⟨oo, at_mem ha⟩⟩
            clear ha hwf
            go_wp2
            go_roundg (gk - 1)
            case measure => have := HJ.out; have := HLT.out; omega
            case rel => exact ⟨j + 1, jv + 1, T1, S1, by first | rfl | rw [w1_], ⟨by have := HJV.out; omega⟩, ⟨by have := HLT.out; omega, by have := HJ.out; omega⟩, HT2, ⟨by rw [HTK.out]; exact srch_old HSR1.out (fun _ => HHAS.out)⟩, HSE2, HBW2_, HR2, HM1⟩
          | none =>
            rw [ha] at hlk2
            simp only at hlk2
            have HNOT := Aside0.mk (has_at.1 ha)
            have hlen1 := srch_len1 HSR1.out
            obtain ⟨W3, hr3, hse3, hs3⟩ := HSE2.out.put z.2.1 hwf (by have := HB.out; unfold bound; omega)
            obtain ⟨bt, hbt, hbt1, hbt2⟩ := HT2.out.own
            have hlw : w.heap.size ≤ wr.heap.size := HBW1.out.size
            have hbw3 : Below w.heap.size w W3 := HBW2_.out.trans (hs3.below (fun k hk => by have := HWB.out; omega) HBW2_.out.size)
            have hwbr : wb < wr.heap.size := HSE1.out.lt
            have c30 : W3.cell? ⟨wr.heap.size, 1, none⟩ = some (.int .i64 z.2.1) := (blk_cell ((hs3.same _ (by omega) (blk_lt HBLK.out)).trans HBLK.out) 1).trans rfl
            have ht3 : TailAt W3 ts u4 (t :: T1) := HT2.out.step (fun b hb => hs3.same b (by
              rw [hbt] at hb
              cases hb
              have := HTS.out
              omega) (by rw [hbt] at hb; cases hb; exact hbt2))
            have hr3_ : W3.ownsRow rb 42 3 (.slice (some ⟨g5, 0, none⟩) o.links.length k5) o.links.length (cells3 o.links) := row_same HR2.out hs3 (fun k hk e => by
              have h1 := (HR2.out.lt k hk).1
              have h2 := HRBE.out
              have h3 := HSE.out.lt
              omega)
            obtain ⟨W4, hW4⟩ : ∃ W4, W4 = W3.alloc (.cells #[.int .i64 z.2.1] 3 (0, 0)) := ⟨_, rfl⟩
            have hb4 : Below W3.heap.size W3 W4 := by rw [hW4]; exact below_alloc (Below.refl _ _) _
            have c40 : W4.cell? ⟨W3.heap.size, 0, none⟩ = some (.int .i64 z.2.1) := by rw [hW4]; exact (blk_cell (World.alloc_heap_new _ _) 0).trans rfl
            have ht4 := ht3.below hb4
            have hbl4 : ts ≤ W4.heap.size := by
              obtain ⟨b4, -, h1, h2⟩ := ht4.own
              exact Nat.le_of_lt (Nat.lt_of_le_of_lt h1 h2)
            obtain ⟨v6, W6, hr6, ht6, hg6⟩ := ht4.append 32 32 i0 Tryz.underlying32 HIN.out HZ.out.1 HZ.out.2.1 HZ.out.2.2 (by have := HB.out; simp only [List.length_cons]; omega) z.2.1 ⟨W3.heap.size, 0, none⟩ 1 c40 hbl4
            have hr4_ := row_same hr3_ (SameOn.of_below (S := fun _ => True) hb4) (fun _ _ => trivial)
            have hr6_ : W6.ownsRow rb 42 3 (.slice (some ⟨g5, 0, none⟩) o.links.length k5) o.links.length (cells3 o.links) := own_move hr4_ (fun k hk => hg6.block k (hr4_.lt k hk).2 (fun e => ht4.apart hr4_ (by decide) e.symm hk))
            have hse6 : SeenAt W6 wb (seenP S1 z.2.1) := hse3.step ((hg6.block wb (Nat.lt_of_lt_of_le hse3.lt hb4.size) (fun e => by
              obtain ⟨b4, e4, h1, h2⟩ := ht4.own
              rw [e4] at e
              cases e
              have := HTS.out
              omega)).trans (hb4.block wb hse3.lt))
            have hbw6 : Below w.heap.size w W6 := (hbw3.trans (hb4.mono hbw3.size)).grown hg6 (Nat.le_trans hbw3.size hb4.size) (fun k hk => by
              obtain ⟨b4, e4, h1, h2⟩ := ht4.own
              rw [e4] at hk
              cases hk
              have := HTS.out
              have := HWB.out
              omega)
            have HT6 := Aside0.mk ht6
            have HR6 := Aside0.mk hr6_
            have HSE6 := Aside0.mk hse6
            have HBW6 := Aside0.mk hbw6
            have HW4 := Aside0.mk hW4
            clear ht3 hr3_ ht4 hr4_ hbl4 ht6 hr6_ hse6 hbw6 hg6 hb4 c40 hbw3 hse3 hs3 hbt hbt1 hbt2 hlw hwbr hlen1 ha hwf
            go_upto_region 10 with (fail)
            rw [hW4] at hr6
            have HAP := Aside0.mk hr6
            clear hW4 hr6
            go_wp2_with (at_builtin; refine wpList_append_run rfl _ _ 32 rfl rfl rfl HAP.out ?_)
            go_roundg (gk - 1)
            case measure => have := HJ.out; have := HLT.out; omega
            case rel => exact ⟨j + 1, jv + 1, T1 ++ [z.2.1], seenP S1 z.2.1, by first | rfl | rw [w1_], ⟨by have := HJV.out; omega⟩, ⟨by have := HLT.out; omega, by have := HJ.out; omega⟩, HT6, ⟨by rw [HTK.out]; exact srch_add HCL.out HSR1.out HO.out HZM.out HP.out HNOT.out⟩, HSE6, HBW6, HR6, ⟨by rw [seen_len HNOT.out, List.length_append, List.length_singleton]; have := HM1.out; omega⟩⟩
        · have hj : j = o.links.length := by have := HJ.out; omega
          have HSRE : Aside0 (Srch G S1 T1) := ⟨srch_close HG.out.asc (by have := HSR1.out; rw [hj, List.take_length] at this; exact this) HO.out⟩
          obtain ⟨b7, off7, cap7, hv7, hcap7, -, htl7⟩ := HT1.out.head
          subst hv7
          have HTL7 := Aside0.mk htl7
          have q1 : decide (jv < (o.links.length : Int)) = false := decide_eq_false (by have := HJV.out; omega)
          have q2 : (jv < (o.links.length : Int)) = False := eq_false (by have := HJV.out; omega)
          clear htl7 hlt
          have n5 : ((1 : Int) ≤ (T1.length : Int) + 1) = True := eq_true (by omega)
          have n6 : ((1 : Int) ≤ ((T1.length + 1 : Nat) : Int)) = True := eq_true (by omega)
          have n7 : (T1.length + 1 ≤ cap7) = True := eq_true hcap7
          go_upto_region 4 with (fail)
          clear q1 q2
          by_cases hc1 : cap7 = 1
          · have HT10 : Aside0 (T1.length = 0) := ⟨by omega⟩
            subst hc1
            go_wp2
            go_roundg gm
            case measure => omega
            case rel => exact ⟨T1, S1, ⟨by have h := HTL7.out.2; rw [HT10.out] at h; first | exact h rfl | exact h trivial⟩, HSRE, HSE1, HBW1, ⟨by have := HM1.out; have := HM.out; simp only [List.length_cons] at *; omega⟩⟩
          · have n8 : (cap7 - 1 = 0) = False := eq_false (by omega)
            have n9 : (cap7 ≤ 1) = False := eq_false (by omega)
            go_wp2
            all_goals
              go_roundg gm
              case measure => omega
              case rel => first | exact ⟨T1, S1, ⟨HTL7.out.1⟩, HSRE, HSE1, HBW1, ⟨by have := HM1.out; have := HM.out; simp only [List.length_cons] at *; omega⟩⟩ | (exfalso; omega)
end
end Go.Proofs.YthifdofdoeaemaaGreatDoor.Wk
end
section
namespace Go.Proofs.YthifdofdoeaemaaGreatDoor.Wk
open Go.RowKit Go.Proofs.YthifdofdoeaemaaGreatDoorW.PrintWords Go.Proofs.YthifdofdoeaemaaGreatDoorW.PrintLast Go.Proofs.YthifdofdoeaemaaGreatDoorW.PrintMore
attribute [local go_sem] max2_int min2_int max_two min_two max_three min_three max_four min_four
set_option linter.unusedVariables false
set_option linter.unusedSimpArgs false
section
open Go.RowKit Go.Lib Go.Maps Go.Proofs.YthifdofdoeaemaaGreatDoorQ
attribute [local go_sem] Oper.semAt_some
def LkMay (k : Lk) : Prop := goodName k.1 = true ∧ ((k.2.1 = 0 ∧ (parseP k.2.2).2.2 = 0) ∨ (2 ≤ k.2.1 ∧ k.2.2 = ⟨#[]⟩))
end
end Go.Proofs.YthifdofdoeaemaaGreatDoor.Wk
end
section
namespace Go.Proofs.YthifdofdoeaemaaGreatDoor.Wk
open Go.RowKit Go.Proofs.YthifdofdoeaemaaGreatDoorW.PrintWords Go.Proofs.YthifdofdoeaemaaGreatDoorW.PrintLast Go.Proofs.YthifdofdoeaemaaGreatDoorW.PrintMore
attribute [local go_sem] max2_int min2_int max_two min_two max_three min_three max_four min_four
set_option linter.unusedVariables false
set_option linter.unusedSimpArgs false
section
open Go.RowKit Go.Lib Go.Maps
theorem sumO_take_le (f : GO → Nat) : ∀ (l : List (Int × GO)) (i : Nat), sumO f (l.take i) ≤ sumO f l
  | [], i => by simp
  | a :: t, 0 => by simp [sumO]
  | a :: t, i + 1 => by
    rw [List.take_succ_cons, sumO_cons, sumO_cons]
    have := sumO_take_le f t i
    omega
theorem asc_get {l : List (Int × GO)} (h : Asc l) {i j : Nat} (hij : i < j) (hj : j < l.length) : (l[i]'(by omega)).1 < (l[j]'hj).1 := List.pairwise_iff_getElem.1 h i j (by omega) hj hij
end
end Go.Proofs.YthifdofdoeaemaaGreatDoor.Wk
end
section
namespace Go.Proofs.YthifdofdoeaemaaGreatDoor.Wk
open Go.RowKit Go.Proofs.YthifdofdoeaemaaGreatDoorW.PrintWords Go.Proofs.YthifdofdoeaemaaGreatDoorW.PrintLast Go.Proofs.YthifdofdoeaemaaGreatDoorW.PrintMore
attribute [local go_sem] max2_int min2_int max_two min_two max_three min_three max_four min_four
set_option linter.unusedVariables false
set_option linter.unusedSimpArgs false
section
open Go.RowKit Go.Lib Go.Maps
abbrev Shp := Int × Int × List Lk × Int
def shp (x : Int × GO) : Shp := (x.1, x.2.kind, x.2.links, x.2.held)
def shape (l : List (Int × GO)) : List Shp := l.map shp
def sumS (g : List Lk → Nat) (s : List Shp) : Nat := (s.map (fun e => g e.2.2.1)).sum
def recS (s : List Shp) (e : Shp) : Int × GO := (e.1, ⟨e.2.1, e.2.2.1, ((sumS (cntL e.1) s : Nat) : Int), e.2.2.2⟩)
def fullE (x : Int × GO) : Shp := (x.1, x.2.kind, x.2.links, 0)
def bareE (x : Int × GO) : Shp := (x.1, x.2.kind, [], 0)
def emptyO (x : Int × GO) : Int × GO := (x.1, newO x.2.kind)
def upto (l : List (Int × GO)) (i j : Nat) : List Shp := (l.take i).map fullE ++ (match l[i]? with | none => [] | some x => (x.1, x.2.kind, x.2.links.take j, 0) :: (l.drop (i + 1)).map bareE)
def putE (id : Int) (k : Lk) (e : Shp) : Shp := if e.1 = id then (e.1, e.2.1, putK k e.2.2.1, e.2.2.2) else e
structure LoadSt (G : GS) (i j : Nat) (H : GS) : Prop where
  ok : Ok H
  next : H.next = G.next
  shape : shape H.objs = upto G.objs i j
theorem insO_end {x : Int × GO} : ∀ {l : List (Int × GO)}, (∀ y ∈ l, y.1 < x.1) → insO x l = l ++ [x]
  | [], _ => rfl
  | a :: t, h => by
    have h1 := h a (by simp)
    unfold insO
    rw [if_neg (by omega), insO_end (fun y hy => h y (by simp [hy]))]
    rfl
theorem putO_end {x : Int × GO} {l : List (Int × GO)} (h : ∀ y ∈ l, y.1 < x.1) : putO x l = l ++ [x] := by
  unfold putO
  rw [delO_not (fun y hy => by have := h y hy; omega), insO_end h]
end
end Go.Proofs.YthifdofdoeaemaaGreatDoor.Wk
end
section
namespace Go.Proofs.YthifdofdoeaemaaGreatDoor.Wk
open Go.RowKit Go.Proofs.YthifdofdoeaemaaGreatDoorW.PrintWords Go.Proofs.YthifdofdoeaemaaGreatDoorW.PrintLast Go.Proofs.YthifdofdoeaemaaGreatDoorW.PrintMore
attribute [local go_sem] max2_int min2_int max_two min_two max_three min_three max_four min_four
set_option linter.unusedVariables false
set_option linter.unusedSimpArgs false
section
open Go.RowKit Go.Lib Go.Maps Go.Proofs.YthifdofdoeaemaaGreatDoorQ
attribute [local go_sem] Oper.semAt_some
end
end Go.Proofs.YthifdofdoeaemaaGreatDoor.Wk
end
section
namespace Go.Proofs.YthifdofdoeaemaaGreatDoor.Wk
open Go.RowKit Go.Proofs.YthifdofdoeaemaaGreatDoorW.PrintWords Go.Proofs.YthifdofdoeaemaaGreatDoorW.PrintLast Go.Proofs.YthifdofdoeaemaaGreatDoorW.PrintMore
attribute [local go_sem] max2_int min2_int max_two min_two max_three min_three max_four min_four
set_option linter.unusedVariables false
set_option linter.unusedSimpArgs false
section
open Go.RowKit Go.Lib Go.Maps Go.Proofs.YthifdofdoeaemaaGreatDoorQ
attribute [local go_sem] Oper.semAt_some
set_option maxHeartbeats 4000000 in
set_option maxRecDepth 100000 in
theorem links_same (w : World) (b1 b2 : Nat) (A1 A2 : Option Addr) (c1 c2 : Nat) (l : List Lk) (h1 : w.ownsRow b1 42 3 (.slice A1 l.length c1) l.length (cells3 l)) (h2 : w.ownsRow b2 42 3 (.slice A2 l.length c2) l.length (cells3 l)) (hb : l.length ≤ bound) :
    Calls Tryz.prog 58 #[.slice A1 l.length c1, .slice A2 l.length c2] w fun e w' => e = .returned (.bool true) ∧ ∃ m, w' = w.drewN m := by
  have H1 := Aside0.mk h1
  have H2 := Aside0.mk h2
  have HB := Aside0.mk hb
  clear h1 h2 hb
  go_enter Tryz.func58, Tryz.ntmps58
  go_wp2
  go_loopg [5] l.length (fun kq v5 W => ∃ (j m : Nat) (jv : Int), v5 = .int .i64 jv ∧ Aside0 (jv = (j : Int)) ∧ Aside0 (j ≤ l.length ∧ l.length - j ≤ kq) ∧ W = w.drewN m)
  case atStart => exact ⟨0, 0, 0, rfl, ⟨rfl⟩, ⟨by omega, by omega⟩, rfl⟩
  case round =>
    obtain ⟨j, m, jv, rfl, HJV, HJ, rfl⟩ := hrel
    by_cases hlt : j < l.length
    · obtain ⟨k, hk⟩ : ∃ k, l[j]? = some k := ⟨_, List.getElem?_eq_getElem hlt⟩
      obtain ⟨g1, hA1, -, hr1⟩ := link_at H1.out rfl hk
      obtain ⟨g2, hA2, -, hr2⟩ := link_at H2.out rfl hk
      subst hA1 hA2
      have k0 : w.cell? ⟨g1, j * 3, none⟩ = some (.string k.1) := hr1 0 _ rfl
      have k1 : w.cell? ⟨g1, j * 3 + 1, none⟩ = some (.int .i64 k.2.1) := hr1 1 _ rfl
      have k2 : w.cell? ⟨g1, j * 3 + 2, none⟩ = some (.string k.2.2) := hr1 2 _ rfl
      have e0 : w.cell? ⟨g2, j * 3, none⟩ = some (.string k.1) := hr2 0 _ rfl
      have e1 : w.cell? ⟨g2, j * 3 + 1, none⟩ = some (.int .i64 k.2.1) := hr2 1 _ rfl
      have e2 : w.cell? ⟨g2, j * 3 + 2, none⟩ = some (.string k.2.2) := hr2 2 _ rfl
      have q1 : decide (jv < (l.length : Int)) = true := decide_eq_true (by have := HJV.out; omega)
      have q2 : (jv < (l.length : Int)) = True := eq_true (by have := HJV.out; omega)
      have q3 : (0 : Int) ≤ jv := by have := HJV.out; omega
      have q4 : jv.toNat = j := by have := HJV.out; omega
      have w1_ : wrap64 (jv + 1) = jv + 1 := wrap_ok9 _ (by omega) (by have := HJV.out; have := HB.out; unfold bound at this; omega)
      have HLT := Aside0.mk hlt
      clear hr1 hr2 hk hlt
      go_upto_region 6 with (fail)
      go_big_quiet (fail)
      go_wp2
      clear q4
      go_roundg (gk - 1)
      case measure => have := HJ.out; have := HLT.out; omega
      case rel => exact ⟨j + 1, m + nq, jv + 1, by first | rfl | rw [w1_], ⟨by have := HJV.out; omega⟩, ⟨by have := HLT.out; omega, by have := HJ.out; omega⟩, rfl⟩
    · have q1 : decide (jv < (l.length : Int)) = false := decide_eq_false (by have := HJV.out; omega)
      have q2 : (jv < (l.length : Int)) = False := eq_false (by have := HJV.out; omega)
      go_wp2
      go_ret
      exact ⟨rfl, _, rfl⟩
theorem below_dn2 (w : World) (n : Nat) : Below w.heap.size w (w.drewN n) := ⟨rfl, rfl, rfl, Nat.le_refl _, fun _ _ => rfl⟩
theorem node_row {w : World} {base : Nat} {v : Value} {l : List (Int × GO)} (h : NodesAt w base v l) {i : Nat} {x : Int × GO} (hx : l[i]? = some x) : ∃ g k A c, v = .slice (some ⟨g, 0, none⟩) l.length k ∧ g < w.heap.size ∧ w.cell? ⟨g, i * 3, none⟩ = some (.int .i64 x.1) ∧ w.cell? ⟨g, i * 3 + 1, none⟩ = some (.int .i64 x.2.kind) ∧ w.cell? ⟨g, i * 3 + 2, none⟩ = some (.slice A x.2.links.length c) ∧
    w.ownsRow base 42 3 (.slice A x.2.links.length c) x.2.links.length (cells3 x.2.links) := by
  have hi : i < l.length := (List.getElem?_eq_some_iff.1 hx).1
  obtain ⟨sl, h1, h2, h3⟩ := h
  obtain ⟨A0, k0, rfl⟩ := own_sl3 h2
  obtain ⟨u, hu⟩ : ∃ u, sl[i]? = some u := ⟨_, List.getElem?_eq_getElem (by omega)⟩
  obtain ⟨g, rfl, -, hr⟩ := node_at h2 rfl hx hu
  have h4 := h3 i x u hx hu
  obtain ⟨A, c, rfl⟩ := own_sl3 h4
  exact ⟨g, k0, A, c, rfl, World.block_lt_of_cell? w _ (hr 0 _ rfl), hr 0 _ rfl, hr 1 _ rfl, hr 2 _ rfl, h4⟩
end
end Go.Proofs.YthifdofdoeaemaaGreatDoor.Wk
end
