-- Texts that the row GraphBack leans on, joined by wip/tools/mkclaim.py: GReach, GReach1, GSame, GMay, GPOnce, GPLoad, GLoad, GLawBack
import Derived.Test.YthifdofdoeaemaaGreatDoorCGraphBack2
import Derived.Test.YthifdofdoeaemaaGreatDoorProg
import Derived.Below
import Derived.Deep.Draws
import Derived.Deep.AppendLies
import Derived.Maps.AppendAt
import Derived.OwnWalk
import Derived.Laws.BytesArg
import Derived.Laws.MakeOwn
import Derived.Laws.OwnMore
import Derived.Deep.OwnRows
import Derived.Tactics
import Derived.Lib.ConvBytes
import Derived.Laws.Slices
import Derived.WalkKit
import Derived.KernelRfl
import Derived.RowKit3
import Derived.Deep.LoopGhost
import Derived.Deep.QuietTactic
import Derived.BigQuiet
import Derived.WideLaws
import Derived.Deep.DeepCutAuto
import Derived.Deep.CutBlock
import Derived.Deep.RegionHeld3
import Derived.Laws.Rows
import Derived.Lib.AppendStr
import Derived.ArgAppend
import Derived.Laws.IdiomCopy
import Derived.OrdersHeld
import Derived.Laws.BitsLemmas
import Derived.RowKit
import Derived.WalkSpells
import Derived.Sort.LoopGhostIn
import Derived.Sort.CutIn
import Derived.Shelf.Abstract
import Derived.Shelf.RegionOpen
import Derived.OwnWalkIn
import Derived.TacticsInMore
import Derived.LoopNIn
import Derived.LoopIn
import Derived.Laws.Cover1
section
namespace Go.Proofs.YthifdofdoeaemaaGreatDoor.Wk
open Go.RowKit Go.Proofs.YthifdofdoeaemaaGreatDoorW.PrintWords Go.Proofs.YthifdofdoeaemaaGreatDoorW.PrintLast Go.Proofs.YthifdofdoeaemaaGreatDoorW.PrintMore
attribute [local go_sem] max2_int min2_int max_two min_two max_three min_three max_four min_four
set_option linter.unusedVariables false
set_option linter.unusedSimpArgs false
section
open Go.RowKit Go.Lib Go.Maps Go.Proofs.YthifdofdoeaemaaGreatDoorQ
attribute [local go_sem] Oper.semAt_some
def readI : Value → Option (DataW Unit × List MemPlace)
  | .int .i64 x => some (.lit (.int .i64 x), [])
  | _ => none
theorem readI_inv {v : Value} {x : Int} {p : List MemPlace} (h : readI v = some (.lit (.int .i64 x), p)) : v = .int .i64 x := by
  unfold readI at h
  split at h
  · rename_i y
    simp only [Option.some.injEq, Prod.mk.injEq, DataW.lit.injEq, Lit.int.injEq, true_and] at h
    rw [h.1]
  · cases h
abbrev ones : Int → Nat := fun _ => 1
def SeenAt (W : World) (b : Nat) (S : List (Int × GO)) : Prop := W.ownsMap Tryz.prog 3 readI b S.length (.map (S.map (encO ones)))
theorem SeenAt.look {W : World} {b : Nat} {S : List (Int × GO)} (h : SeenAt W b S) (id : Int) (hw : (Lit.int .i64 id).wf = true) :
    (Instr.lookup 100 (.map (some b)) (.int .i64 id) false).run Tryz.prog W = .ok (.int .i64 (match (GS.mk 0 0 S).at id with | some _ => 1 | none => 0)) W := by
  obtain ⟨v, ps, hrun, hv⟩ := h.lookup (int_keyed Tryz.underlying3) Tryz.underlying100 (Tryz.zeroValue3 W) (zd := .lit (.int .i64 0)) (zp := []) rfl (keyOf_int_mk Tryz.underlying3 hw)
  rw [show (Lit.int .i64 id) = keyO id from rfl, show (DataW.map (S.map (encO ones))) = DataW.map ((GS.mk 0 0 S).objs.map (encO ones)) from rfl, atKey_O] at hv
  rw [hrun]
  cases ha : (GS.mk 0 0 S).at id with
  | none =>
    rw [ha] at hv
    rw [readI_inv hv]
  | some o =>
    rw [ha] at hv
    rw [readI_inv hv]
    rfl
theorem SeenAt.put {W : World} {b : Nat} {S : List (Int × GO)} (h : SeenAt W b S) (id : Int) (hw : (Lit.int .i64 id).wf = true) (hl : S.length < bound) :
    ∃ W', (Instr.mapUpdate 100 (.map (some b)) (.int .i64 id) (.int .i64 1)).run Tryz.prog W = .ok () W' ∧ SeenAt W' b (seenP S id) ∧ SameOn (fun k => k ≠ b) W W' := by
  obtain ⟨W', hr, hW, hg⟩ := World.ownsMap.update h (t := 100) (e := 3) (int_keyed Tryz.underlying3) Tryz.underlying100 (Nat.lt_trans hl (by decide)) (keyOf_int_mk Tryz.underlying3 hw) (val := .int .i64 1) (d := .lit (.int .i64 1)) (ps := []) rfl
  have hp := put_O ones S (id, newO 0)
  simp only at hp
  rw [show (DataW.lit (Lit.int .i64 ((ones id : Nat) : Int)) : DataW Unit) = .lit (.int .i64 1) from rfl] at hp
  have hp' : (DataW.map (S.map (encO ones))).put (keyO id) (.lit (.int .i64 1)) = .map ((seenP S id).map (encO ones)) := hp
  rw [show (Lit.int .i64 id) = keyO id from rfl, hp'] at hW
  have hW2 := own_tight hW
  rw [List.length_map] at hW2
  exact ⟨W', hr, hW2, ⟨hg.size, fun k h1 h2 => hg.block k h2 (fun e => h1 (by injection e)), hg.os, hg.tape, hg.output⟩⟩
theorem SeenAt.step {W W' : World} {b : Nat} {S : List (Int × GO)} (h : SeenAt W b S) (hs : W'.heap[b]? = W.heap[b]?) : SeenAt W' b S := own_same h hs
theorem seen_new (w : World) : SeenAt (w.alloc (.map #[] 0)) w.heap.size [] := World.ownsMap_made w _ _ _
theorem wpList_append_run {P : Program} {W W1 : World} {ops : Array Oper} {rest : List Oper} {o : Oper} {a : Act} {Q : Exit → Act → World → Prop} (hgd : o.guard = none) (s x : Operand) (t : TypeId)
    (ho : o.op = Op.call { callee := Callee.builtin Builtin.append, args := #[s, x], argTypes := #[t, t] }) {vs vx vr : Value} (hs : a.eval s = vs) (hx : a.eval x = vx)
    (hr : (Builtin.append_ #[t, t] o.type #[vs, vx]).run P W = .ok vr W1) (hK : wpList P ops Q rest (a.put o.dst vr) W1) : wpList P ops Q (o :: rest) a W := by
  refine wpList_plain hgd fun K hK' => ?_
  unfold Oper.wp
  simp [execOp, ho, resolve, invoke, builtin, hs, hx, hr, Result.andThen]
  exact hK' _ _ hK
theorem wrap_ok9 (a : Int) (h0 : -4611686018427387904 ≤ a) (h1 : a < 4611686018427387904) : wrap64 a = a := by unfold wrap64; omega
set_option maxHeartbeats 8000000 in
set_option maxRecDepth 100000 in
theorem reached_calls (B : GB) (G : GS) (w : World) (hG : GraphAt w B G) (hcl : Closed G) (h1 : has G.objs 1) (hb : G.objs.length ≤ 1000) (hlb : ∀ x ∈ G.objs, x.2.links.length ≤ bound) :
    Calls Tryz.prog 52 #[.pointer (some ⟨B.g, 0, none⟩)] w fun e w' => ∃ b S, e = .returned (.map (some b)) ∧ w.heap.size ≤ b ∧ SeenAt w' b S ∧ Asc S ∧ (∀ x, has S x ↔ Rch G x) ∧ Below w.heap.size w w' := by
  have HG := Aside0.mk hG
  have HCL := Aside0.mk hcl
  have H1 := Aside0.mk h1
  have HB := Aside0.mk hb
  have HLB := Aside0.mk hlb
  obtain ⟨W1, hr1, hS1, hs1⟩ := (seen_new w).put 1 (by decide) (by decide)
  have hz1 : w.heap.size + 1 ≤ W1.heap.size := by have := hs1.size; simpa using this
  have HBW1 : Aside0 (Below w.heap.size w W1) := ⟨(below_alloc (Below.refl _ _) _).trans (hs1.below (fun k hk => by omega) (by simp))⟩
  have hS1' : SeenAt W1 w.heap.size [(1, newO 0)] := hS1
  have HS1 := Aside0.mk hS1'
  have HZ1 := Aside0.mk hz1
  clear hG hcl h1 hb hlb hS1 hS1' hs1 hz1
  go_enter Tryz.func52, Tryz.ntmps52
  have hmk : ∀ t w, (Instr.makeMap t none).run Tryz.prog w = .ok (.map (some w.heap.size)) (w.alloc (.map #[] 0)) := fun _ _ => rfl
  go_wp2
  obtain ⟨wb, hwb⟩ : ∃ wb, wb = w.heap.size := ⟨_, rfl⟩
  rw [← hwb]
  have HWB := Aside0.mk hwb
  have HT0 := Aside0.mk (tail_lit W1 1)
  have HBW2 : Aside0 (Below w.heap.size w (W1.alloc (.cells #[.int .i64 1] 3 (0, 0)))) := ⟨HBW1.out.trans ((below_alloc (Below.refl _ _) _).mono HBW1.out.size)⟩
  have HS2 : Aside0 (SeenAt (W1.alloc (.cells #[.int .i64 1] 3 (0, 0))) wb [(1, newO 0)]) := ⟨by rw [HWB.out]; exact HS1.out.step (Below.heap_alloc _ _ _ (by have := HZ1.out; omega))⟩
  obtain ⟨ts, hts⟩ : ∃ ts, ts = W1.heap.size := ⟨_, rfl⟩
  rw [← hts]
  have HTS : Aside0 (wb < ts) := ⟨by have := HZ1.out; have := HWB.out; omega⟩
  rw [← hts] at HT0
  obtain ⟨i0, hi0, hz0, hz1, hz2⟩ := info_parts (P := Tryz.prog) (e := 3) (z := .int .i64 0) (size := 1) (bytes := 8) (by kernel_rfl)
  have HIN := Aside0.mk hi0
  have HZ := Aside0.mk (And.intro hz0 (And.intro hz1 hz2))
  clear hwb hr1 hts hi0 hz0 hz1 hz2
  go_loopg [4] 1000 (fun kq v4 W => ∃ (T : List Int) (S : List (Int × GO)), Aside0 (TailAt W ts v4 T) ∧ Aside0 (Srch G S T) ∧ Aside0 (SeenAt W wb S) ∧ Aside0 (Below w.heap.size w W) ∧ Aside0 (G.objs.length + T.length ≤ kq + S.length))
  case atStart => exact ⟨[1], [(1, newO 0)], HT0, ⟨srch_new H1.out⟩, HS2, HBW2, ⟨by have := HB.out; simp; omega⟩⟩
  case round =>
    obtain ⟨T, S, HT, HSR, HSE, HBW, HM⟩ := hrel
    cases T with
    | nil =>
      obtain ⟨b, off, cap, cs, hv, -⟩ := HT.out
      subst hv
      go_wp2
      go_ret
      exact ⟨wb, S, rfl, by have := HWB.out; omega, HSE.out, HSR.out.asc, srch_all HSR.out, HBW.out⟩
    | cons t T =>
      obtain ⟨gm, rfl⟩ : ∃ gm, gk = gm + 1 := ⟨gk - 1, by have := HM.out; have := (srch_len HSR.out).1; simp only [List.length_cons] at *; omega⟩
      obtain ⟨b, off, cap, hv, hcap, hcell, htl⟩ := HT.out.head
      subst hv
      obtain ⟨o, ho⟩ := HSR.out.objs t (HSR.out.todo t (by simp))
      have hGr : GraphAt wr B G := HG.out.below HBW.out
      have hat : G.at t = some o := at_of_mem HG.out.asc ho
      have c1 : wr.cell? ⟨B.g, 1, none⟩ = some (.map (some B.mb)) := hGr.c1
      have hlk := hGr.lookAt hat
      have HAT := Aside0.mk hat
      have HO := Aside0.mk ho
      have HTL := Aside0.mk htl
      have HGR := Aside0.mk hGr
      have hlen := srch_len HSR.out
      have HLEN := Aside0.mk hlen
      have n1 : decide ((0 : Int) < ((T.length + 1 : Nat) : Int)) = true := decide_eq_true (by omega)
      have n2 : decide ((0 : Int) < (T.length : Int) + 1) = true := decide_eq_true (by omega)
      have n3 : ((0 : Int) < (T.length : Int) + 1) = True := eq_true (by omega)
      have n4 : ((0 : Int) < ((T.length + 1 : Nat) : Int)) = True := eq_true (by omega)
      clear hGr hat ho htl hlen
      go_upto_region 5 with (fail)
      have hS : wr.drew.cell? ⟨B.g, 1, none⟩ = some (.map (some B.mb)) ∧ wr.drew.cell? ⟨b, off, none⟩ = some (.int .i64 t) ∧ (Instr.lookup 71 (.map (some B.mb)) (.int .i64 t) false).run Tryz.prog wr.drew = .ok (.pointer (some ⟨B.ob t, 0, none⟩)) wr.drew ∧ GraphAt wr.drew B G ∧ Below wr.heap.size wr wr.drew :=
        ⟨c1, hcell, (HGR.out.below (below_drew (Below.refl _ _))).lookAt HAT.out, HGR.out.below (below_drew (Below.refl _ _)), below_drew (Below.refl _ _)⟩
      refine start_ (n := 11) (S := fun W' => W'.cell? ⟨B.g, 1, none⟩ = some (.map (some B.mb)) ∧ W'.cell? ⟨b, off, none⟩ = some (.int .i64 t) ∧ (Instr.lookup 71 (.map (some B.mb)) (.int .i64 t) false).run Tryz.prog W' = .ok (.pointer (some ⟨B.ob t, 0, none⟩)) W' ∧ GraphAt W' B G ∧ Below wr.heap.size wr W') (ds := [8]) #[false, false, false, false, false, false, false, false, false, false, false] (by kernel_rfl) rfl rfl hS (fun hHeld => ?_)
      refine pure_ (i := 0) (N := some 15) (v := ?_) (a' := ?_) #[true, false, false, false, false, false, false, false, false, false, false] rfl rfl (by kernel_rfl) (fun _ _ _ h => h) (Or.inl ⟨by rfl, ?_⟩) ?_ ?_
      rotate_left
      · intro w'
        go_simp
        with_reducible rfl
      rotate_left
      · simp only [Act.put, List.setIfInBounds_toArray, List.set_cons_zero, List.set_cons_succ, i64_w, i32_w]
        rfl
      refine pure_ (i := 1) (N := some 16) (v := ?_) (a' := ?_) #[true, true, false, false, false, false, false, false, false, false, false] rfl rfl (by kernel_rfl) (fun _ _ _ h => h) (Or.inl ⟨by rfl, ?_⟩) ?_ ?_
      rotate_left
      · intro w'
        go_simp
        with_reducible rfl
      rotate_left
      · simp only [Act.put, List.setIfInBounds_toArray, List.set_cons_zero, List.set_cons_succ, i64_w, i32_w]
        rfl
      refine pure_ (i := 2) (N := some 17) (v := ?_) (a' := ?_) #[true, true, true, false, false, false, false, false, false, false, false] rfl rfl (by kernel_rfl) (fun _ _ _ h => h) (Or.inl ⟨by rfl, ?_⟩) ?_ ?_
      rotate_left
      · intro w'
        go_simp
        with_reducible rfl
      rotate_left
      · simp only [Act.put, List.setIfInBounds_toArray, List.set_cons_zero, List.set_cons_succ, i64_w, i32_w]
        rfl
      refine take_ (i := 3) (N := some 18) (v := ?_) (a' := ?_) #[true, true, true, true, false, false, false, false, false, false, false] rfl rfl (by kernel_rfl) (fun _ _ _ h => h) (Or.inl ⟨by rfl, ?_⟩) hHeld ?_ ?_
      rotate_left
      · rintro w' ⟨s1_, s2_, s3_, s4_, s5_⟩
        go_simp
        with_reducible rfl
      rotate_left
      · simp only [Act.put, List.setIfInBounds_toArray, List.set_cons_zero, List.set_cons_succ, i64_w, i32_w]
        rfl
      refine pure_ (i := 4) (N := some 19) (v := ?_) (a' := ?_) #[true, true, true, true, true, false, false, false, false, false, false] rfl rfl (by kernel_rfl) (fun _ _ _ h => h) (Or.inl ⟨by rfl, ?_⟩) ?_ ?_
      rotate_left
      · intro w'
        go_simp
        with_reducible rfl
      rotate_left
      · simp only [Act.put, List.setIfInBounds_toArray, List.set_cons_zero, List.set_cons_succ, i64_w, i32_w]
        rfl
      refine pure_ (i := 5) (N := some 20) (v := ?_) (a' := ?_) #[true, true, true, true, true, true, false, false, false, false, false] rfl rfl (by kernel_rfl) (fun _ _ _ h => h) (Or.inl ⟨by rfl, ?_⟩) ?_ ?_
      rotate_left
      · intro w'
        go_simp
        with_reducible rfl
      rotate_left
      · simp only [Act.put, List.setIfInBounds_toArray, List.set_cons_zero, List.set_cons_succ, i64_w, i32_w]
        rfl
      refine take_ (i := 6) (N := some 21) (v := ?_) (a' := ?_) #[true, true, true, true, true, true, true, false, false, false, false] rfl rfl (by kernel_rfl) (fun _ _ _ h => h) (Or.inl ⟨by rfl, ?_⟩) hHeld ?_ ?_
      rotate_left
      · rintro w' ⟨s1_, s2_, s3_, s4_, s5_⟩
        go_simp
        with_reducible rfl
      rotate_left
      · simp only [Act.put, List.setIfInBounds_toArray, List.set_cons_zero, List.set_cons_succ, i64_w, i32_w]
        rfl
      refine take_ (i := 7) (N := some 22) (v := ?_) (a' := ?_) #[true, true, true, true, true, true, true, true, false, false, false] rfl rfl (by kernel_rfl) (fun _ _ _ h => h) (Or.inl ⟨by rfl, ?_⟩) hHeld ?_ ?_
      rotate_left
      · rintro w' ⟨s1_, s2_, s3_, s4_, s5_⟩
        go_simp
        with_reducible rfl
      rotate_left
      · simp only [Act.put, List.setIfInBounds_toArray, List.set_cons_zero, List.set_cons_succ, i64_w, i32_w]
        rfl
      refine pure_ (i := 10) (N := some 25) (v := ?_) (a' := ?_) #[true, true, true, true, true, true, true, true, false, false, true] rfl rfl (by kernel_rfl) (fun _ _ _ h => h) (Or.inl ⟨by rfl, ?_⟩) ?_ ?_
      rotate_left
      · intro w'
        go_simp
        with_reducible rfl
      rotate_left
      · simp only [Act.put, List.setIfInBounds_toArray, List.set_cons_zero, List.set_cons_succ, i64_w, i32_w]
        rfl
      refine last_ (i := 8) (N := some 23) #[true, true, true, true, true, true, true, true, true, false, true] rfl rfl (by kernel_rfl) (by decide) (fun K hK => ?_)
      skip
      refine goes_ Tryz.func47 (by kernel_rfl) rfl #[.pointer (some ⟨B.ob t, 0, none⟩)] (by rfl) rfl rfl (by (simp only [List.map_toArray, List.map_cons, List.map_nil]); rfl) ?_
      refine (list_calls B G t o _ hHeld.2.2.2.1 HAT.out (HLB.out _ HO.out)).mono ?_
      rintro e_ w5 ⟨v5, rfl, hr5, hb5⟩
      obtain ⟨A5, k5, rfl⟩ := own_sl3 hr5
      refine ⟨_, rfl, ?_⟩
      refine hK.out _ _ ?_
      clear hK K
      refine norm_ (a' := ?_) ?_ ?_
      rotate_left
      · show Act.put _ (some 23) _ = _
        simp only [Act.put, List.setIfInBounds_toArray, List.set_cons_zero, List.set_cons_succ, i64_w, i32_w]
        rfl
      have HB5 := Aside0.mk (hHeld.2.2.2.2.trans (hb5.mono hHeld.2.2.2.2.size))
      have HR5 := Aside0.mk (hr5.mono hHeld.2.2.2.2.size)
      clear hr5 hb5 hS
      refine pure_ (i := 9) (N := some 24) (v := ?_) (a' := ?_) #[true, true, true, true, true, true, true, true, true, true, true] rfl rfl (by kernel_rfl) (fun _ _ _ h => h) (Or.inl ⟨by rfl, ?_⟩) ?_ ?_
      rotate_left
      · intro w'
        go_simp
        with_reducible rfl
      rotate_left
      · simp only [Act.put, List.setIfInBounds_toArray, List.set_cons_zero, List.set_cons_succ, i64_w, i32_w]
        rfl
      refine done_ (by kernel_rfl) ?_
      clear c1 hlk hcell n1 n2 n3 n4
      obtain ⟨rb, hrb⟩ : ∃ rb, rb = wr.heap.size := ⟨_, rfl⟩
      rw [← hrb] at HR5
      have HRBE := Aside0.mk hrb
      clear hrb hHeld
      go_wp2
      go_loopg [25, 4] o.links.length (fun kq v25 v4 W => ∃ (j : Nat) (jv : Int) (T1 : List Int) (S1 : List (Int × GO)), v25 = .int .i64 jv ∧ Aside0 (jv = (j : Int)) ∧ Aside0 (j ≤ o.links.length ∧ o.links.length - j ≤ kq) ∧ Aside0 (TailAt W ts v4 (t :: T1)) ∧ Aside0 (Srch1 G S1 t T1 (o.links.take j)) ∧ Aside0 (SeenAt W wb S1) ∧ Aside0 (Below w.heap.size w W) ∧ Aside0 (W.ownsRow rb 42 3 (.slice A5 o.links.length k5) o.links.length (cells3 o.links)) ∧ Aside0 (S.length + T1.length = S1.length + T.length))
      case atStart => exact ⟨0, 0, T, S, rfl, ⟨rfl⟩, ⟨by omega, by omega⟩, ⟨HT.out.below HB5.out⟩, ⟨srch_open HSR.out⟩, ⟨HSE.out.step (HB5.out.block _ (HSE.out.lt))⟩, ⟨HBW.out.trans (HB5.out.mono HBW.out.size)⟩, HR5, ⟨rfl⟩⟩
      case round =>
        obtain ⟨j, jv, T1, S1, rfl, HJV, HJ, HT1, HSR1, HSE1, HBW1, HR1, HM1⟩ := hrel
        by_cases hlt : j < o.links.length
        · obtain ⟨z, hz⟩ : ∃ z, o.links[j]'hlt = z := ⟨_, rfl⟩
          obtain ⟨g5, hA5, hg5, hrg⟩ := link_at HR1.out rfl (show o.links[j]? = some z by rw [List.getElem?_eq_getElem hlt, hz])
          subst hA5
          have k0 : wr.cell? ⟨g5, j * 3, none⟩ = some (.string z.1) := hrg 0 _ rfl
          have k1 : wr.cell? ⟨g5, j * 3 + 1, none⟩ = some (.int .i64 z.2.1) := hrg 1 _ rfl
          have k2 : wr.cell? ⟨g5, j * 3 + 2, none⟩ = some (.string z.2.2) := hrg 2 _ rfl
          have q1 : decide (jv < (o.links.length : Int)) = true := decide_eq_true (by have := HJV.out; omega)
          have q2 : (jv < (o.links.length : Int)) = True := eq_true (by have := HJV.out; omega)
          have q3 : (0 : Int) ≤ jv := by have := HJV.out; omega
          have q4 : jv.toNat = j := by have := HJV.out; omega
          go_upto_region 8 with (fail)
          obtain ⟨W2, hW2⟩ : ∃ W2, W2 = wr.alloc (.cells #[.string z.1, .int .i64 z.2.1, .string z.2.2] 42 (0, 0)) := ⟨_, rfl⟩
          have hb2 : Below wr.heap.size wr W2 := by rw [hW2]; exact below_alloc (Below.refl _ _) _
          have hblk : W2.heap[wr.heap.size]? = some (.cells #[.string z.1, .int .i64 z.2.1, .string z.2.2] 42 (0, 0)) := by rw [hW2]; exact World.alloc_heap_new _ _
          have c20 : W2.cell? ⟨wr.heap.size, 1, none⟩ = some (.int .i64 z.2.1) := (blk_cell hblk 1).trans rfl
          rw [← hW2]
          have HB2 := Aside0.mk hb2
          have HBLK := Aside0.mk hblk
          have HZM : Aside0 (z ∈ o.links) := ⟨hz ▸ List.getElem_mem hlt⟩
          have HTK : Aside0 (o.links.take (j + 1) = o.links.take j ++ [z]) := ⟨by rw [List.take_succ_eq_append_getElem hlt, hz]⟩
          have HLT := Aside0.mk hlt
          have HT2 := Aside0.mk (HT1.out.below hb2)
          have HSE2 := Aside0.mk (HSE1.out.step (hb2.block _ HSE1.out.lt))
          have HBW2_ := Aside0.mk (HBW1.out.trans (hb2.mono HBW1.out.size))
          have HR2 := Aside0.mk (row_same HR1.out (SameOn.of_below (S := fun _ => True) hb2) (fun _ _ => trivial))
          have w1_ : wrap64 (jv + 1) = jv + 1 := wrap_ok9 _ (by omega) (by have := HJV.out; have := HLB.out _ HO.out; unfold bound at this; simp only at this; omega)
          clear k0 k1 k2 hrg hg5 hb2 hblk hz hlt q1 q2 q3 q4 hW2
          by_cases hpos : 0 < z.2.1
          rotate_left
          · have r1 : decide (0 < z.2.1) = false := decide_eq_false hpos
            have HNP := Aside0.mk hpos
            clear hpos
            go_wp2
            go_roundg (gk - 1)
            case measure => have := HJ.out; have := HLT.out; omega
            case rel => exact ⟨j + 1, jv + 1, T1, S1, by first | rfl | rw [w1_], ⟨by have := HJV.out; omega⟩, ⟨by have := HLT.out; omega, by have := HJ.out; omega⟩, HT2, ⟨by rw [HTK.out]; exact srch_old HSR1.out (fun h => absurd h (by have := HNP.out; omega))⟩, HSE2, HBW2_, HR2, HM1⟩
          have r1 : decide (0 < z.2.1) = true := decide_eq_true hpos
          have HP := Aside0.mk hpos
          have hwf : (Lit.int .i64 z.2.1).wf = true := by
            obtain ⟨t', ht'⟩ := HCL.out _ HO.out z HZM.out hpos
            exact HG.out.ids _ ht'
          have hlk2 := HSE2.out.look z.2.1 hwf
          clear hpos
          cases ha : (GS.mk 0 0 S1).at z.2.1 with
          | some oo =>
            rw [ha] at hlk2
            simp only at hlk2
            have HHAS : Aside0 (has S1 z.2.1) := ⟨⟨oo, at_mem ha⟩⟩
            clear ha hwf
            go_wp2
            go_roundg (gk - 1)
            case measure => have := HJ.out; have := HLT.out; omega
            case rel => exact ⟨j + 1, jv + 1, T1, S1, by first | rfl | rw [w1_], ⟨by have := HJV.out; omega⟩, ⟨by have := HLT.out; omega, by have := HJ.out; omega⟩, HT2, ⟨by rw [HTK.out]; exact srch_old HSR1.out (fun _ => HHAS.out)⟩, HSE2, HBW2_, HR2, HM1⟩
          | none =>
            rw [ha] at hlk2
            simp only at hlk2
            have HNOT := Aside0.mk (has_at.1 ha)
            have hlen1 := srch_len1 HSR1.out
            obtain ⟨W3, hr3, hse3, hs3⟩ := HSE2.out.put z.2.1 hwf (by have := HB.out; unfold bound; omega)
            obtain ⟨bt, hbt, hbt1, hbt2⟩ := HT2.out.own
            have hlw : w.heap.size ≤ wr.heap.size := HBW1.out.size
            have hbw3 : Below w.heap.size w W3 := HBW2_.out.trans (hs3.below (fun k hk => by have := HWB.out; omega) HBW2_.out.size)
            have hwbr : wb < wr.heap.size := HSE1.out.lt
            have c30 : W3.cell? ⟨wr.heap.size, 1, none⟩ = some (.int .i64 z.2.1) := (blk_cell ((hs3.same _ (by omega) (blk_lt HBLK.out)).trans HBLK.out) 1).trans rfl
            have ht3 : TailAt W3 ts u4 (t :: T1) := HT2.out.step (fun b hb => hs3.same b (by
              rw [hbt] at hb
              cases hb
              have := HTS.out
              omega) (by rw [hbt] at hb; cases hb; exact hbt2))
            have hr3_ : W3.ownsRow rb 42 3 (.slice (some ⟨g5, 0, none⟩) o.links.length k5) o.links.length (cells3 o.links) := row_same HR2.out hs3 (fun k hk e => by
              have h1 := (HR2.out.lt k hk).1
              have h2 := HRBE.out
              have h3 := HSE.out.lt
              omega)
            obtain ⟨W4, hW4⟩ : ∃ W4, W4 = W3.alloc (.cells #[.int .i64 z.2.1] 3 (0, 0)) := ⟨_, rfl⟩
            have hb4 : Below W3.heap.size W3 W4 := by rw [hW4]; exact below_alloc (Below.refl _ _) _
            have c40 : W4.cell? ⟨W3.heap.size, 0, none⟩ = some (.int .i64 z.2.1) := by rw [hW4]; exact (blk_cell (World.alloc_heap_new _ _) 0).trans rfl
            have ht4 := ht3.below hb4
            have hbl4 : ts ≤ W4.heap.size := by
              obtain ⟨b4, -, h1, h2⟩ := ht4.own
              exact Nat.le_of_lt (Nat.lt_of_le_of_lt h1 h2)
            obtain ⟨v6, W6, hr6, ht6, hg6⟩ := ht4.append 32 32 i0 Tryz.underlying32 HIN.out HZ.out.1 HZ.out.2.1 HZ.out.2.2 (by have := HB.out; simp only [List.length_cons]; omega) z.2.1 ⟨W3.heap.size, 0, none⟩ 1 c40 hbl4
            have hr4_ := row_same hr3_ (SameOn.of_below (S := fun _ => True) hb4) (fun _ _ => trivial)
            have hr6_ : W6.ownsRow rb 42 3 (.slice (some ⟨g5, 0, none⟩) o.links.length k5) o.links.length (cells3 o.links) := own_move hr4_ (fun k hk => hg6.block k (hr4_.lt k hk).2 (fun e => ht4.apart hr4_ (by decide) e.symm hk))
            have hse6 : SeenAt W6 wb (seenP S1 z.2.1) := hse3.step ((hg6.block wb (Nat.lt_of_lt_of_le hse3.lt hb4.size) (fun e => by
              obtain ⟨b4, e4, h1, h2⟩ := ht4.own
              rw [e4] at e
              cases e
              have := HTS.out
              omega)).trans (hb4.block wb hse3.lt))
            have hbw6 : Below w.heap.size w W6 := (hbw3.trans (hb4.mono hbw3.size)).grown hg6 (Nat.le_trans hbw3.size hb4.size) (fun k hk => by
              obtain ⟨b4, e4, h1, h2⟩ := ht4.own
              rw [e4] at hk
              cases hk
              have := HTS.out
              have := HWB.out
              omega)
            have HT6 := Aside0.mk ht6
            have HR6 := Aside0.mk hr6_
            have HSE6 := Aside0.mk hse6
            have HBW6 := Aside0.mk hbw6
            have HW4 := Aside0.mk hW4
            clear ht3 hr3_ ht4 hr4_ hbl4 ht6 hr6_ hse6 hbw6 hg6 hb4 c40 hbw3 hse3 hs3 hbt hbt1 hbt2 hlw hwbr hlen1 ha hwf
            go_upto_region 10 with (fail)
            rw [hW4] at hr6
            have HAP := Aside0.mk hr6
            clear hW4 hr6
            go_wp2_with (at_builtin; refine wpList_append_run rfl _ _ 32 rfl rfl rfl HAP.out ?_)
            go_roundg (gk - 1)
            case measure => have := HJ.out; have := HLT.out; omega
            case rel => exact ⟨j + 1, jv + 1, T1 ++ [z.2.1], seenP S1 z.2.1, by first | rfl | rw [w1_], ⟨by have := HJV.out; omega⟩, ⟨by have := HLT.out; omega, by have := HJ.out; omega⟩, HT6, ⟨by rw [HTK.out]; exact srch_add HCL.out HSR1.out HO.out HZM.out HP.out HNOT.out⟩, HSE6, HBW6, HR6, ⟨by rw [seen_len HNOT.out, List.length_append, List.length_singleton]; have := HM1.out; omega⟩⟩
        · have hj : j = o.links.length := by have := HJ.out; omega
          have HSRE : Aside0 (Srch G S1 T1) := ⟨srch_close HG.out.asc (by have := HSR1.out; rw [hj, List.take_length] at this; exact this) HO.out⟩
          obtain ⟨b7, off7, cap7, hv7, hcap7, -, htl7⟩ := HT1.out.head
          subst hv7
          have HTL7 := Aside0.mk htl7
          have q1 : decide (jv < (o.links.length : Int)) = false := decide_eq_false (by have := HJV.out; omega)
          have q2 : (jv < (o.links.length : Int)) = False := eq_false (by have := HJV.out; omega)
          clear htl7 hlt
          have n5 : ((1 : Int) ≤ (T1.length : Int) + 1) = True := eq_true (by omega)
          have n6 : ((1 : Int) ≤ ((T1.length + 1 : Nat) : Int)) = True := eq_true (by omega)
          have n7 : (T1.length + 1 ≤ cap7) = True := eq_true hcap7
          go_upto_region 4 with (fail)
          clear q1 q2
          by_cases hc1 : cap7 = 1
          · have HT10 : Aside0 (T1.length = 0) := ⟨by omega⟩
            subst hc1
            go_wp2
            go_roundg gm
            case measure => omega
            case rel => exact ⟨T1, S1, ⟨by have h := HTL7.out.2; rw [HT10.out] at h; first | exact h rfl | exact h trivial⟩, HSRE, HSE1, HBW1, ⟨by have := HM1.out; have := HM.out; simp only [List.length_cons] at *; omega⟩⟩
          · have n8 : (cap7 - 1 = 0) = False := eq_false (by omega)
            have n9 : (cap7 ≤ 1) = False := eq_false (by omega)
            go_wp2
            all_goals
              go_roundg gm
              case measure => omega
              case rel => first | exact ⟨T1, S1, ⟨HTL7.out.1⟩, HSRE, HSE1, HBW1, ⟨by have := HM1.out; have := HM.out; simp only [List.length_cons] at *; omega⟩⟩ | (exfalso; omega)
end
end Go.Proofs.YthifdofdoeaemaaGreatDoor.Wk
end
section
namespace Go.Proofs.YthifdofdoeaemaaGreatDoor.Wk
open Go.RowKit Go.Proofs.YthifdofdoeaemaaGreatDoorW.PrintWords Go.Proofs.YthifdofdoeaemaaGreatDoorW.PrintLast Go.Proofs.YthifdofdoeaemaaGreatDoorW.PrintMore
attribute [local go_sem] max2_int min2_int max_two min_two max_three min_three max_four min_four
set_option linter.unusedVariables false
set_option linter.unusedSimpArgs false
section
open Go.RowKit Go.Lib Go.Maps Go.Proofs.YthifdofdoeaemaaGreatDoorQ
attribute [local go_sem] Oper.semAt_some
set_option maxHeartbeats 4000000 in
set_option maxRecDepth 100000 in
theorem reach1_has (W : World) (c sb : Nat) (S : List (Int × GO)) (id kind : Int) (u : Value) (hc : W.cell? ⟨c, 0, none⟩ = some (.map (some sb))) (hS : SeenAt W sb S) (hw : (Lit.int .i64 id).wf = true) (hh : has S id) :
    Calls Tryz.prog 62 #[.agg #[.int .i64 id, .int .i64 kind, u], .pointer (some ⟨c, 0, none⟩)] W fun e w' => e = .returned (.bool false) ∧ Below W.heap.size W w' := by
  obtain ⟨W2, hW2⟩ : ∃ W2, W2 = W.alloc (.cells #[.int .i64 id, .int .i64 kind, u] 50 (0, 0)) := ⟨_, rfl⟩
  have hb2 : Below W.heap.size W W2 := by rw [hW2]; exact below_alloc (Below.refl _ _) _
  have hlk := (hS.step (W' := W2) (hb2.block _ hS.lt)).look id hw
  have hc2 : W2.cell? ⟨c, 0, none⟩ = some (.map (some sb)) := (hb2.cell (World.block_lt_of_cell? W _ hc)).trans hc
  have hi2 : W2.cell? ⟨W.heap.size, 0, none⟩ = some (.int .i64 id) := by rw [hW2]; exact (blk_cell (World.alloc_heap_new _ _) 0).trans rfl
  cases ha : (GS.mk 0 0 S).at id with
  | none => exact absurd hh (has_at.1 ha)
  | some o =>
    rw [ha] at hlk
    simp only at hlk
    have HB2 := Aside0.mk hb2
    have HW2 := Aside0.mk hW2
    clear hb2 hS hc hW2
    go_enter Tryz.func62, Tryz.ntmps62
    go_upto_region 1 with (fail)
    rw [← HW2.out]
    go_wp2
    go_ret
    exact ⟨rfl, HB2.out⟩
set_option maxHeartbeats 4000000 in
set_option maxRecDepth 100000 in
theorem index_none (l : List (Int × GO)) (base : Nat) (A : Option Addr) (k : Nat) (w : World) (c sb : Nat) (S : List (Int × GO)) (hn : NodesAt w base (.slice A l.length k) l) (hc : w.cell? ⟨c, 0, none⟩ = some (.map (some sb))) (hS : SeenAt w sb S)
    (hall : ∀ x ∈ l, has S x.1) (hwf : ∀ x ∈ l, (Lit.int .i64 x.1).wf = true) (hlen : l.length ≤ bound) :
    Calls Tryz.prog 85 #[.slice A l.length k, .func (.func 62) #[] #[.pointer (some ⟨c, 0, none⟩)]] w fun e w' => e = .returned (.int .i64 (-1)) ∧ Below w.heap.size w w' := by
  have HN := Aside0.mk hn
  have HC := Aside0.mk hc
  have HS := Aside0.mk hS
  have HALL := Aside0.mk hall
  have HWF := Aside0.mk hwf
  have HLEN := Aside0.mk hlen
  clear hn hc hS hall hwf hlen
  go_enter Tryz.func85, Tryz.ntmps85
  go_wp2
  go_loopg [8] l.length (fun kq v8 W => ∃ (j : Nat) (jv : Int), v8 = .int .i64 jv ∧ Aside0 (jv = (j : Int)) ∧ Aside0 (j ≤ l.length ∧ l.length - j ≤ kq) ∧ Aside0 (Below w.heap.size w W))
  case atStart => exact ⟨0, 0, rfl, ⟨rfl⟩, ⟨by omega, by omega⟩, ⟨Below.refl _ _⟩⟩
  case round =>
    obtain ⟨j, jv, rfl, HJV, HJ, HB⟩ := hrel
    by_cases hlt : j < l.length
    · obtain ⟨x, hx⟩ : ∃ x, l[j]? = some x := ⟨_, List.getElem?_eq_getElem hlt⟩
      have hxm : x ∈ l := List.mem_of_getElem? hx
      obtain ⟨g, k', sl, hv, -, hg, hnode⟩ := nodes_read HN.out (by omega)
      obtain ⟨rfl, rfl⟩ : A = some ⟨g, 0, none⟩ ∧ k = k' := by simpa using hv
      obtain ⟨Ax, cx, -, x1, x2, x3, -⟩ := hnode j x hx
      have y1 : wr.cell? ⟨g, j * 3, none⟩ = some (.int .i64 x.1) := (HB.out.cell (p := ⟨g, j * 3, none⟩) hg).trans x1
      have y2 : wr.cell? ⟨g, j * 3 + 1, none⟩ = some (.int .i64 x.2.kind) := (HB.out.cell (p := ⟨g, j * 3 + 1, none⟩) hg).trans x2
      have y3 : wr.cell? ⟨g, j * 3 + 2, none⟩ = some (.slice Ax x.2.links.length cx) := (HB.out.cell (p := ⟨g, j * 3 + 2, none⟩) hg).trans x3
      have HXM := Aside0.mk hxm
      have HLT := Aside0.mk hlt
      have q1 : decide (jv < (l.length : Int)) = true := decide_eq_true (by have := HJV.out; omega)
      have q2 : (jv < (l.length : Int)) = True := eq_true (by have := HJV.out; omega)
      have q3 : (0 : Int) ≤ jv := by have := HJV.out; omega
      have q4 : jv.toNat = j := by have := HJV.out; omega
      have w1 : wrap64 (jv + 1) = jv + 1 := wrap_ok9 _ (by omega) (by have := HJV.out; have := HLEN.out; unfold bound at this; omega)
      have hcw : wr.cell? ⟨c, 0, none⟩ = some (.map (some sb)) := (HB.out.cell (World.block_lt_of_cell? w _ HC.out)).trans HC.out
      have HCW := Aside0.mk hcw
      have HSW := Aside0.mk (HS.out.step (HB.out.block _ HS.out.lt))
      clear hx hxm hv hg hnode x1 x2 x3 hlt hcw
      go_wp2_with (go_at_call 62; refine (reach1_has _ c sb S x.1 x.2.kind _ HCW.out HSW.out (HWF.out _ HXM.out) (HALL.out _ HXM.out)).mono ?_; rintro e_ w3 ⟨rfl, hb3⟩; have HB3 := Aside0.mk hb3; clear hb3)
      clear q4
      go_roundg (gk - 1)
      case measure => have := HJ.out; have := HLT.out; omega
      case rel => exact ⟨j + 1, jv + 1, by first | rfl | rw [w1], ⟨by have := HJV.out; omega⟩, ⟨by have := HLT.out; omega, by have := HJ.out; omega⟩, ⟨HB.out.trans (HB3.out.mono HB.out.size)⟩⟩
    · have q1 : decide (jv < (l.length : Int)) = false := decide_eq_false (by have := HJV.out; omega)
      have q2 : (jv < (l.length : Int)) = False := eq_false (by have := HJV.out; omega)
      go_wp2
      go_ret
      exact ⟨rfl, HB.out⟩
set_option maxHeartbeats 4000000 in
set_option maxRecDepth 100000 in
theorem delete_none (l : List (Int × GO)) (base : Nat) (A : Option Addr) (k : Nat) (w : World) (c sb : Nat) (S : List (Int × GO)) (hn : NodesAt w base (.slice A l.length k) l) (hc : w.cell? ⟨c, 0, none⟩ = some (.map (some sb))) (hS : SeenAt w sb S)
    (hall : ∀ x ∈ l, has S x.1) (hwf : ∀ x ∈ l, (Lit.int .i64 x.1).wf = true) (hlen : l.length ≤ bound) :
    Calls Tryz.prog 61 #[.slice A l.length k, .func (.func 62) #[] #[.pointer (some ⟨c, 0, none⟩)]] w fun e w' => e = .returned (.slice A l.length k) ∧ Below w.heap.size w w' := by
  have HI := Aside0.mk (index_none l base A k w c sb S hn hc hS hall hwf hlen)
  clear hn hc hS hall hwf hlen
  go_enter Tryz.func61, Tryz.ntmps61
  go_wp2_with (go_at_call 85; refine HI.out.mono ?_; rintro e_ w3 ⟨rfl, hb3⟩; have HB3 := Aside0.mk hb3; clear hb3)
  go_ret
  exact ⟨rfl, HB3.out⟩
set_option maxHeartbeats 4000000 in
set_option maxRecDepth 100000 in
theorem reach_all (B : GB) (G : GS) (w : World) (hG : GraphAt w B G) (hcl : Closed G) (hr : ∀ x ∈ G.objs, Rch G x.1) (h1 : has G.objs 1) (hb : G.objs.length ≤ 1000) (hlb : ∀ x ∈ G.objs, x.2.links.length ≤ bound) :
    Calls Tryz.prog 32 #[.pointer (some ⟨B.g, 0, none⟩)] w fun e w' => ∃ v, e = .returned v ∧ NodesAt w' w.heap.size v G.objs ∧ Below w.heap.size w w' := by
  have HG := Aside0.mk hG
  have HCL := Aside0.mk hcl
  have HR := Aside0.mk hr
  have H1 := Aside0.mk h1
  have HB := Aside0.mk hb
  have HLB := Aside0.mk hlb
  clear hG hcl hr h1 hb hlb
  go_enter Tryz.func32, Tryz.ntmps32
  go_upto_region 3 with (go_at_call 39; refine (good_calls B G _ HG.out).mono ?_; rintro e_ w0 ⟨rfl, h0⟩; obtain rfl := h0.symm)
  go_upto_region 4 with (go_at_call 52; refine (reached_calls B G _ HG.out HCL.out H1.out HB.out HLB.out).mono ?_; rintro e_ w1 ⟨sb, S, rfl, hsb, hse, -, hall, hb1⟩; have HSB := Aside0.mk hsb; have HSE := Aside0.mk hse; have HALL := Aside0.mk hall; have HB1 := Aside0.mk hb1; clear hsb hse hall hb1)
  obtain ⟨W2, hW2⟩ : ∃ W2, W2 = w1.alloc (.cells #[.map (some sb)] 100 (0, 0)) := ⟨_, rfl⟩
  have hb2 : Below w1.heap.size w1 W2 := by rw [hW2]; exact below_alloc (Below.refl _ _) _
  have hc2 : W2.cell? ⟨w1.heap.size, 0, none⟩ = some (.map (some sb)) := by rw [hW2]; exact (blk_cell (World.alloc_heap_new _ _) 0).trans rfl
  have hb02 : Below w.heap.size w W2 := HB1.out.trans (hb2.mono HB1.out.size)
  rw [← hW2]
  have HB02 := Aside0.mk hb02
  have HC2 := Aside0.mk hc2
  have HSE2 := Aside0.mk (HSE.out.step (hb2.block _ HSE.out.lt))
  clear hW2 hb2 hc2 hb02
  go_wp2_with (first
    | (go_at_call 23; refine (nodes_calls B G _ (HG.out.below HB02.out) (by have := HB.out; unfold bound; omega) HLB.out).mono ?_; rintro e_ w3 ⟨v3, rfl, hn3, hb3⟩; obtain ⟨sl3, hl3, hr3, hm3⟩ := hn3; obtain ⟨A3, k3, rfl⟩ := own_sl3 hr3; have HN3 := Aside0.mk (show NodesAt w3 W2.heap.size _ G.objs from ⟨sl3, hl3, hr3, hm3⟩); have HB3 := Aside0.mk hb3; clear hl3 hr3 hm3 hb3)
    | (go_at_call 61; refine (delete_none G.objs W2.heap.size A3 k3 _ w1.heap.size sb S HN3.out ((HB3.out.cell (World.block_lt_of_cell? _ _ HC2.out)).trans HC2.out) (HSE2.out.step (HB3.out.block _ HSE2.out.lt)) (fun x hx => (HALL.out _).2 (HR.out x hx)) HG.out.ids (by have := HB.out; unfold bound; omega)).mono ?_; rintro e_ w4 ⟨rfl, hb4⟩; have HB4 := Aside0.mk hb4; clear hb4))
  go_ret
  exact ⟨_, rfl, (HN3.out.below HB4.out).mono HB02.out.size, HB02.out.trans ((HB3.out.trans (HB4.out.mono HB3.out.size)).mono HB02.out.size)⟩
end
end Go.Proofs.YthifdofdoeaemaaGreatDoor.Wk
end
section
namespace Go.Proofs.YthifdofdoeaemaaGreatDoor.Wk
open Go.RowKit Go.Proofs.YthifdofdoeaemaaGreatDoorW.PrintWords Go.Proofs.YthifdofdoeaemaaGreatDoorW.PrintLast Go.Proofs.YthifdofdoeaemaaGreatDoorW.PrintMore
attribute [local go_sem] max2_int min2_int max_two min_two max_three min_three max_four min_four
set_option linter.unusedVariables false
set_option linter.unusedSimpArgs false
section
open Go.RowKit Go.Lib Go.Maps Go.Proofs.YthifdofdoeaemaaGreatDoorQ
attribute [local go_sem] Oper.semAt_some
set_option maxHeartbeats 4000000 in
set_option maxRecDepth 100000 in
theorem links_same (w : World) (b1 b2 : Nat) (A1 A2 : Option Addr) (c1 c2 : Nat) (l : List Lk) (h1 : w.ownsRow b1 42 3 (.slice A1 l.length c1) l.length (cells3 l)) (h2 : w.ownsRow b2 42 3 (.slice A2 l.length c2) l.length (cells3 l)) (hb : l.length ≤ bound) :
    Calls Tryz.prog 58 #[.slice A1 l.length c1, .slice A2 l.length c2] w fun e w' => e = .returned (.bool true) ∧ ∃ m, w' = w.drewN m := by
  have H1 := Aside0.mk h1
  have H2 := Aside0.mk h2
  have HB := Aside0.mk hb
  clear h1 h2 hb
  go_enter Tryz.func58, Tryz.ntmps58
  go_wp2
  go_loopg [5] l.length (fun kq v5 W => ∃ (j m : Nat) (jv : Int), v5 = .int .i64 jv ∧ Aside0 (jv = (j : Int)) ∧ Aside0 (j ≤ l.length ∧ l.length - j ≤ kq) ∧ W = w.drewN m)
  case atStart => exact ⟨0, 0, 0, rfl, ⟨rfl⟩, ⟨by omega, by omega⟩, rfl⟩
  case round =>
    obtain ⟨j, m, jv, rfl, HJV, HJ, rfl⟩ := hrel
    by_cases hlt : j < l.length
    · obtain ⟨k, hk⟩ : ∃ k, l[j]? = some k := ⟨_, List.getElem?_eq_getElem hlt⟩
      obtain ⟨g1, hA1, -, hr1⟩ := link_at H1.out rfl hk
      obtain ⟨g2, hA2, -, hr2⟩ := link_at H2.out rfl hk
      subst hA1 hA2
      have k0 : w.cell? ⟨g1, j * 3, none⟩ = some (.string k.1) := hr1 0 _ rfl
      have k1 : w.cell? ⟨g1, j * 3 + 1, none⟩ = some (.int .i64 k.2.1) := hr1 1 _ rfl
      have k2 : w.cell? ⟨g1, j * 3 + 2, none⟩ = some (.string k.2.2) := hr1 2 _ rfl
      have e0 : w.cell? ⟨g2, j * 3, none⟩ = some (.string k.1) := hr2 0 _ rfl
      have e1 : w.cell? ⟨g2, j * 3 + 1, none⟩ = some (.int .i64 k.2.1) := hr2 1 _ rfl
      have e2 : w.cell? ⟨g2, j * 3 + 2, none⟩ = some (.string k.2.2) := hr2 2 _ rfl
      have q1 : decide (jv < (l.length : Int)) = true := decide_eq_true (by have := HJV.out; omega)
      have q2 : (jv < (l.length : Int)) = True := eq_true (by have := HJV.out; omega)
      have q3 : (0 : Int) ≤ jv := by have := HJV.out; omega
      have q4 : jv.toNat = j := by have := HJV.out; omega
      have w1_ : wrap64 (jv + 1) = jv + 1 := wrap_ok9 _ (by omega) (by have := HJV.out; have := HB.out; unfold bound at this; omega)
      have HLT := Aside0.mk hlt
      clear hr1 hr2 hk hlt
      go_upto_region 6 with (fail)
      go_big_quiet (fail)
      go_wp2
      clear q4
      go_roundg (gk - 1)
      case measure => have := HJ.out; have := HLT.out; omega
      case rel => exact ⟨j + 1, m + nq, jv + 1, by first | rfl | rw [w1_], ⟨by have := HJV.out; omega⟩, ⟨by have := HLT.out; omega, by have := HJ.out; omega⟩, rfl⟩
    · have q1 : decide (jv < (l.length : Int)) = false := decide_eq_false (by have := HJV.out; omega)
      have q2 : (jv < (l.length : Int)) = False := eq_false (by have := HJV.out; omega)
      go_wp2
      go_ret
      exact ⟨rfl, _, rfl⟩
theorem below_dn2 (w : World) (n : Nat) : Below w.heap.size w (w.drewN n) := ⟨rfl, rfl, rfl, Nat.le_refl _, fun _ _ => rfl⟩
theorem row_dn {w : World} {base n size : Nat} {e : TypeId} {v : Value} {xs : List Value} (h : w.ownsRow base e size v n xs) (m : Nat) : (w.drewN m).ownsRow base e size v n xs := row_same h (SameOn.of_below (S := fun _ => True) (below_dn2 w m)) (fun _ _ => trivial)
theorem node_row {w : World} {base : Nat} {v : Value} {l : List (Int × GO)} (h : NodesAt w base v l) {i : Nat} {x : Int × GO} (hx : l[i]? = some x) : ∃ g k A c, v = .slice (some ⟨g, 0, none⟩) l.length k ∧ g < w.heap.size ∧ w.cell? ⟨g, i * 3, none⟩ = some (.int .i64 x.1) ∧ w.cell? ⟨g, i * 3 + 1, none⟩ = some (.int .i64 x.2.kind) ∧ w.cell? ⟨g, i * 3 + 2, none⟩ = some (.slice A x.2.links.length c) ∧
    w.ownsRow base 42 3 (.slice A x.2.links.length c) x.2.links.length (cells3 x.2.links) := by
  have hi : i < l.length := (List.getElem?_eq_some_iff.1 hx).1
  obtain ⟨sl, h1, h2, h3⟩ := h
  obtain ⟨A0, k0, rfl⟩ := own_sl3 h2
  obtain ⟨u, hu⟩ : ∃ u, sl[i]? = some u := ⟨_, List.getElem?_eq_getElem (by omega)⟩
  obtain ⟨g, rfl, -, hr⟩ := node_at h2 rfl hx hu
  have h4 := h3 i x u hx hu
  obtain ⟨A, c, rfl⟩ := own_sl3 h4
  exact ⟨g, k0, A, c, rfl, World.block_lt_of_cell? w _ (hr 0 _ rfl), hr 0 _ rfl, hr 1 _ rfl, hr 2 _ rfl, h4⟩
set_option maxHeartbeats 4000000 in
set_option maxRecDepth 100000 in
theorem nodes_same (w : World) (b1 b2 : Nat) (v1 v2 : Value) (l : List (Int × GO)) (h1 : NodesAt w b1 v1 l) (h2 : NodesAt w b2 v2 l) (h0 : 0 < l.length) (hb : l.length ≤ bound) (hlb : ∀ x ∈ l, x.2.links.length ≤ bound) :
    Calls Tryz.prog 30 #[v1, v2] w fun e w' => e = .returned (.bool true) ∧ ∃ m, w' = w.drewN m := by
  have H1 := Aside0.mk h1
  have H2 := Aside0.mk h2
  have HB := Aside0.mk hb
  have HLB := Aside0.mk hlb
  obtain ⟨x0, hx0⟩ : ∃ x0, l[0]? = some x0 := ⟨_, List.getElem?_eq_getElem h0⟩
  obtain ⟨g1, c1, -, -, rfl, -⟩ := node_row h1 hx0
  obtain ⟨g2, c2, -, -, rfl, -⟩ := node_row h2 hx0
  clear h1 h2 hb hlb hx0 h0
  go_enter Tryz.func30, Tryz.ntmps30
  go_wp2
  go_loopg [5] l.length (fun kq v5 W => ∃ (j m : Nat) (jv : Int), v5 = .int .i64 jv ∧ Aside0 (jv = (j : Int)) ∧ Aside0 (j ≤ l.length ∧ l.length - j ≤ kq) ∧ Aside0 (W = w.drewN m))
  case atStart => exact ⟨0, 0, 0, rfl, ⟨rfl⟩, ⟨by omega, by omega⟩, ⟨rfl⟩⟩
  case round =>
    obtain ⟨j, m, jv, rfl, HJV, HJ, HW⟩ := hrel
    by_cases hlt : j < l.length
    · obtain ⟨x, hx⟩ : ∃ x, l[j]? = some x := ⟨_, List.getElem?_eq_getElem hlt⟩
      obtain ⟨g1', c1', A1, d1, e1, -, x1, x2, x3, r1⟩ := node_row H1.out hx
      obtain ⟨rfl, rfl⟩ : g1 = g1' ∧ c1 = c1' := by simpa using e1
      obtain ⟨g2', c2', A2, d2, e2, -, y1, y2, y3, r2⟩ := node_row H2.out hx
      obtain ⟨rfl, rfl⟩ : g2 = g2' ∧ c2 = c2' := by simpa using e2
      replace x1 : wr.cell? ⟨g1, j * 3, none⟩ = some (.int .i64 x.1) := by rw [HW.out]; exact x1
      replace x2 : wr.cell? ⟨g1, j * 3 + 1, none⟩ = some (.int .i64 x.2.kind) := by rw [HW.out]; exact x2
      replace x3 : wr.cell? ⟨g1, j * 3 + 2, none⟩ = some (.slice A1 x.2.links.length d1) := by rw [HW.out]; exact x3
      replace y1 : wr.cell? ⟨g2, j * 3, none⟩ = some (.int .i64 x.1) := by rw [HW.out]; exact y1
      replace y2 : wr.cell? ⟨g2, j * 3 + 1, none⟩ = some (.int .i64 x.2.kind) := by rw [HW.out]; exact y2
      replace y3 : wr.cell? ⟨g2, j * 3 + 2, none⟩ = some (.slice A2 x.2.links.length d2) := by rw [HW.out]; exact y3
      have HR1 : Aside0 (wr.ownsRow b1 42 3 (.slice A1 x.2.links.length d1) x.2.links.length (cells3 x.2.links)) := ⟨by rw [HW.out]; exact row_dn r1 _⟩
      have HR2 : Aside0 (wr.ownsRow b2 42 3 (.slice A2 x.2.links.length d2) x.2.links.length (cells3 x.2.links)) := ⟨by rw [HW.out]; exact row_dn r2 _⟩
      have HXM := Aside0.mk (List.mem_of_getElem? hx)
      have q1 : decide (jv < (l.length : Int)) = true := decide_eq_true (by have := HJV.out; omega)
      have q2 : (jv < (l.length : Int)) = True := eq_true (by have := HJV.out; omega)
      have q3 : (0 : Int) ≤ jv := by have := HJV.out; omega
      have q4 : jv.toNat = j := by have := HJV.out; omega
      have w1_ : wrap64 (jv + 1) = jv + 1 := wrap_ok9 _ (by omega) (by have := HJV.out; have := HB.out; unfold bound at this; omega)
      have HLT := Aside0.mk hlt
      clear hx hlt r1 r2 e1 e2
      go_upto_region 6 with (fail)
      go_big_quiet ((go_at_call 58; exact Calls.quiet_of (links_same _ b1 b2 _ _ _ _ _ (row_dn HR1.out _) (row_dn HR2.out _) (HLB.out _ HXM.out))))
      go_wp2
      clear q4
      go_roundg (gk - 1)
      case measure => have := HJ.out; have := HLT.out; omega
      case rel => exact ⟨j + 1, m + nq, jv + 1, by first | rfl | rw [w1_], ⟨by have := HJV.out; omega⟩, ⟨by have := HLT.out; omega, by have := HJ.out; omega⟩, ⟨by rw [HW.out, World.drewN_drewN]⟩⟩
    · have q1 : decide (jv < (l.length : Int)) = false := decide_eq_false (by have := HJV.out; omega)
      have q2 : (jv < (l.length : Int)) = False := eq_false (by have := HJV.out; omega)
      go_wp2
      go_ret
      exact ⟨rfl, m, HW.out⟩
end
end Go.Proofs.YthifdofdoeaemaaGreatDoor.Wk
end
section
namespace Go.Proofs.YthifdofdoeaemaaGreatDoor.Wk
open Go.RowKit Go.Proofs.YthifdofdoeaemaaGreatDoorW.PrintWords Go.Proofs.YthifdofdoeaemaaGreatDoorW.PrintLast Go.Proofs.YthifdofdoeaemaaGreatDoorW.PrintMore
attribute [local go_sem] max2_int min2_int max_two min_two max_three min_three max_four min_four
set_option linter.unusedVariables false
set_option linter.unusedSimpArgs false
section
open Go.RowKit Go.Lib Go.Maps Go.Proofs.YthifdofdoeaemaaGreatDoorQ
attribute [local go_sem] Oper.semAt_some
def LkMay (k : Lk) : Prop := goodName k.1 = true ∧ ((k.2.1 = 0 ∧ (parseP k.2.2).2.2 = 0) ∨ (2 ≤ k.2.1 ∧ k.2.2 = ⟨#[]⟩))
theorem less_before : ∀ a b : List UInt8, Op.bytesLess a b = bytesBefore a b
  | [], [] => rfl
  | [], _ :: _ => rfl
  | _ :: _, [] => rfl
  | a :: r, b :: s => by
    show (decide (a < b) || (a == b && Op.bytesLess r s)) = (decide (a < b) || (a == b && bytesBefore r s))
    rw [less_before r s]
theorem names_at : ∀ {l : List Lk} {i j : Nat} {a b : Lk}, Names l → l[i]? = some a → l[j]? = some b → i < j → bytesBefore a.1.data.toList b.1.data.toList = true := by
  intro l i j a b h ha hb hij
  obtain ⟨h1, e1⟩ := List.getElem?_eq_some_iff.1 ha
  obtain ⟨h2, e2⟩ := List.getElem?_eq_some_iff.1 hb
  have := List.pairwise_iff_getElem.1 h i j h1 h2 hij
  rw [e1, e2] at this
  exact this
set_option maxHeartbeats 8000000 in
set_option maxRecDepth 100000 in
theorem may_good (w : World) (hlay : Lay w) (base : Nat) (id kind : Int) (A : Option Addr) (c : Nat) (l : List Lk) (hr : w.ownsRow base 42 3 (.slice A l.length c) l.length (cells3 l)) (hk : kind = 1 ∨ kind = 2 ∧ l = []) (hl : ∀ k ∈ l, LkMay k) (hn : Names l) (hb : l.length ≤ bound) :
    Calls Tryz.prog 51 #[.agg #[.int .i64 id, .int .i64 kind, .slice A l.length c]] w fun e w' => e = .returned (.bool true) ∧ Below w.heap.size w w' := by
  have HR := Aside0.mk hr
  have HL := Aside0.mk hl
  have HN := Aside0.mk hn
  have HB := Aside0.mk hb
  have HLAY := Aside0.mk hlay
  clear hr hl hn hlay
  rcases hk with rfl | ⟨rfl, rfl⟩
  rotate_left
  · obtain ⟨W2, hW2⟩ : ∃ W2, W2 = w.alloc (.cells #[.int .i64 id, .int .i64 2, .slice A 0 c] 50 (0, 0)) := ⟨_, rfl⟩
    have hb2 : Below w.heap.size w W2 := by rw [hW2]; exact below_alloc (Below.refl _ _) _
    have hc1 : W2.cell? ⟨w.heap.size, 1, none⟩ = some (.int .i64 2) := by rw [hW2]; exact (blk_cell (World.alloc_heap_new _ _) 1).trans rfl
    have hc2 : W2.cell? ⟨w.heap.size, 2, none⟩ = some (.slice A 0 c) := by rw [hW2]; exact (blk_cell (World.alloc_heap_new _ _) 2).trans rfl
    have HB2 := Aside0.mk hb2
    have HW2 := Aside0.mk hW2
    clear hb2 hW2
    go_enter Tryz.func51, Tryz.ntmps51
    go_upto_region 1 with (fail)
    rw [← HW2.out]
    go_wp2
    go_loopg [27] 0 (fun kq v27 W => v27 = .int .i64 0 ∧ W = W2)
    case atStart => exact ⟨rfl, rfl⟩
    case round =>
      obtain ⟨rfl, h0⟩ := hrel
      obtain rfl := h0.symm
      go_wp2
      go_ret
      exact ⟨rfl, HB2.out⟩
  obtain ⟨W2, hW2⟩ : ∃ W2, W2 = w.alloc (.cells #[.int .i64 id, .int .i64 1, .slice A l.length c] 50 (0, 0)) := ⟨_, rfl⟩
  have hb2 : Below w.heap.size w W2 := by rw [hW2]; exact below_alloc (Below.refl _ _) _
  have hc1 : W2.cell? ⟨w.heap.size, 1, none⟩ = some (.int .i64 1) := by rw [hW2]; exact (blk_cell (World.alloc_heap_new _ _) 1).trans rfl
  have hc2 : W2.cell? ⟨w.heap.size, 2, none⟩ = some (.slice A l.length c) := by rw [hW2]; exact (blk_cell (World.alloc_heap_new _ _) 2).trans rfl
  have HB2 := Aside0.mk hb2
  have HC2 := Aside0.mk hc2
  have HW2 := Aside0.mk hW2
  have HZ2 : Aside0 (w.heap.size < W2.heap.size) := ⟨by rw [hW2]; simp⟩
  have HR2 := Aside0.mk (row_same HR.out (SameOn.of_below (S := fun _ => True) hb2) (fun _ _ => trivial))
  clear hb2 hW2
  go_enter Tryz.func51, Tryz.ntmps51
  go_upto_region 1 with (fail)
  rw [← HW2.out]
  go_wp2
  obtain ⟨wb, hwb⟩ : ∃ wb, wb = w.heap.size := ⟨_, rfl⟩
  rw [← hwb] at hc1 hc2 ⊢
  have HWBE := Aside0.mk hwb
  clear hwb
  go_loopg [27] l.length (fun kq v27 W => ∃ (j : Nat) (jv : Int), v27 = .int .i64 jv ∧ Aside0 (jv = (j : Int)) ∧ Aside0 (j ≤ l.length ∧ l.length - j ≤ kq) ∧ Aside0 (Below W2.heap.size W2 W))
  case atStart => exact ⟨0, 0, rfl, ⟨rfl⟩, ⟨by omega, by omega⟩, ⟨Below.refl _ _⟩⟩
  case round =>
    obtain ⟨j, jv, rfl, HJV, HJ, HBW⟩ := hrel
    by_cases hlt : j < l.length
    · obtain ⟨k, hk⟩ : ∃ k, l[j]'hlt = k := ⟨_, rfl⟩
      have hkm : k ∈ l := hk ▸ List.getElem_mem hlt
      have HRw := Aside0.mk (row_same HR2.out (SameOn.of_below (S := fun _ => True) HBW.out) (fun _ _ => trivial))
      obtain ⟨g5, hA5, hg5, hrg⟩ := link_at HRw.out rfl (show l[j]? = some k by rw [List.getElem?_eq_getElem hlt, hk])
      subst hA5
      have k0 : wr.cell? ⟨g5, j * 3, none⟩ = some (.string k.1) := hrg 0 _ rfl
      have k1 : wr.cell? ⟨g5, j * 3 + 1, none⟩ = some (.int .i64 k.2.1) := hrg 1 _ rfl
      have k2 : wr.cell? ⟨g5, j * 3 + 2, none⟩ = some (.string k.2.2) := hrg 2 _ rfl
      have q1 : decide (jv < (l.length : Int)) = true := decide_eq_true (by have := HJV.out; omega)
      have q2 : (jv < (l.length : Int)) = True := eq_true (by have := HJV.out; omega)
      have q3 : (0 : Int) ≤ jv := by have := HJV.out; omega
      have q4 : jv.toNat = j := by have := HJV.out; omega
      obtain ⟨W5, hW5⟩ : ∃ W5, W5 = wr.alloc (.cells #[.string k.1, .int .i64 k.2.1, .string k.2.2] 42 (0, 0)) := ⟨_, rfl⟩
      have hb5 : Below wr.heap.size wr W5 := by rw [hW5]; exact below_alloc (Below.refl _ _) _
      have hx : W5.heap[wr.heap.size]? = some (.cells #[.string k.1, .int .i64 k.2.1, .string k.2.2] 42 (0, 0)) := by rw [hW5]; exact World.alloc_heap_new _ _
      obtain ⟨xb, hxb⟩ : ∃ xb, xb = wr.heap.size := ⟨_, rfl⟩
      have HW5 := Aside0.mk hW5
      have HB5 := Aside0.mk hb5
      have HLT := Aside0.mk hlt
      have HKM := Aside0.mk hkm
      have HKE : Aside0 (l[j]? = some k) := ⟨by rw [List.getElem?_eq_getElem hlt, hk]⟩
      have HG5 := Aside0.mk hg5
      obtain ⟨pl, pa, py, hpp⟩ : ∃ a b c, parseP k.2.2 = (a, b, c) := ⟨_, _, _, rfl⟩
      have HPP := Aside0.mk hpp
      go_upto_region 6 with (fail)
      rw [← HW5.out, ← hxb]
      rw [← hxb] at hx
      have HX := Aside0.mk hx
      have z2 : W5.cell? ⟨xb, 2, none⟩ = some (.string k.2.2) := (blk_cell hx 2).trans rfl
      have HXB := Aside0.mk hxb
      clear hW5 hb5 hkm hg5 hpp k0 k1 k2 hx hrg hxb hk
      go_upto_region 7 with (go_at_call 40; refine (parse2_calls k.2.2 _ (lay_below HLAY.out (HB2.out.trans ((HBW.out.trans (HB5.out.mono HBW.out.size)).mono HB2.out.size))) pl pa py HPP.out).mono ?_; rintro e_ w6 ⟨v6, rfl, -, -, hb6⟩; have HB6 := Aside0.mk hb6; clear hb6)
      have hx6 : w6.heap[xb]? = some (.cells #[.string k.1, .int .i64 k.2.1, .string k.2.2] 42 (0, 0)) := (HB6.out.block _ (blk_lt HX.out)).trans HX.out
      have y0 : w6.cell? ⟨xb, 0, none⟩ = some (.string k.1) := (blk_cell hx6 0).trans rfl
      have y1 : w6.cell? ⟨xb, 1, none⟩ = some (.int .i64 k.2.1) := (blk_cell hx6 1).trans rfl
      have y2 : w6.cell? ⟨xb, 2, none⟩ = some (.string k.2.2) := (blk_cell hx6 2).trans rfl
      have hbw6 : Below W2.heap.size W2 w6 := HBW.out.trans ((HB5.out.trans (HB6.out.mono HB5.out.size)).mono HBW.out.size)
      have HBW6 := Aside0.mk hbw6
      have p2 : w6.cell? ⟨wb, 2, none⟩ = some (.slice (some ⟨g5, 0, none⟩) l.length c) := (hbw6.cell (World.block_lt_of_cell? _ _ hc2)).trans hc2
      have hrow6 := row_same HRw.out (SameOn.of_below (S := fun _ => True) (HB5.out.trans (HB6.out.mono HB5.out.size))) (fun _ _ => trivial)
      have HR6 := Aside0.mk hrow6
      have w1_ : wrap64 (jv + 1) = jv + 1 := wrap_ok9 _ (by omega) (by have := HJV.out; have := HB.out; unfold bound at this; omega)
      have w2_ : wrap64 (jv - 1) = jv - 1 := wrap_ok9 _ (by omega) (by have := HJV.out; have := HB.out; unfold bound at this; omega)
      obtain ⟨hname, hcase⟩ := HL.out k HKM.out
      have HNAME := Aside0.mk hname
      clear hx6 hbw6 hrow6 hname z2 hlt q1 q2
      rcases hcase with ⟨h0, hp0⟩ | ⟨h2, hs0⟩
      · rw [h0] at y1
        have hpy : py = 0 := by have := HPP.out; rw [this] at hp0; exact hp0
        subst hpy
        clear h0 hp0
        go_upto_region 9 with (fail)
        clear y1
        by_cases hj0 : j = 0
        · have t1 : decide (0 < jv) = false := decide_eq_false (by have := HJV.out; omega)
          have hS : w6.drew.cell? ⟨xb, 0, none⟩ = some (.string k.1) ∧ Below w6.heap.size w6 w6.drew := ⟨y0, below_drew (Below.refl _ _)⟩
          refine start_ (n := 28) (S := fun W' => W'.cell? ⟨xb, 0, none⟩ = some (.string k.1) ∧ Below w6.heap.size w6 W') (ds := []) #[false, false, false, false, false, false, false, false, false, false, false, false, false, false, false, false, false, false, false, false, false, false, false, false, false, false, false, false] (by kernel_rfl) rfl rfl hS (fun hHeld => ?_)
          refine pure_ (i := 0) (N := some 54) (v := ?_) (a' := ?_) #[true, false, false, false, false, false, false, false, false, false, false, false, false, false, false, false, false, false, false, false, false, false, false, false, false, false, false, false] rfl rfl (by kernel_rfl) (fun _ _ _ h => h) (Or.inl ⟨by rfl, ?_⟩) ?_ ?_
          rotate_left
          · intro w'
            go_simp
            with_reducible rfl
          rotate_left
          · simp only [Act.put, List.setIfInBounds_toArray, List.set_cons_zero, List.set_cons_succ, i64_w, i32_w]
            rfl
          refine take_ (i := 1) (N := some 55) (v := ?_) (a' := ?_) #[true, true, false, false, false, false, false, false, false, false, false, false, false, false, false, false, false, false, false, false, false, false, false, false, false, false, false, false] rfl rfl (by kernel_rfl) (fun _ _ _ h => h) (Or.inl ⟨by rfl, ?_⟩) hHeld ?_ ?_
          rotate_left
          · rintro w' ⟨s1_, s2_⟩
            go_simp
            with_reducible rfl
          rotate_left
          · simp only [Act.put, List.setIfInBounds_toArray, List.set_cons_zero, List.set_cons_succ, i64_w, i32_w]
            rfl
          refine one_ (i := 2) (N := some 56) #[true, true, true, false, false, false, false, false, false, false, false, false, false, false, false, false, false, false, false, false, false, false, false, false, false, false, false, false] rfl rfl (by kernel_rfl) (by decide) (fun K hK => ?_)
          skip
          refine goes_ Tryz.func81 (by kernel_rfl) rfl #[.string k.1] (by rfl) rfl rfl (by (simp only [List.map_toArray, List.map_cons, List.map_nil]); rfl) ?_
          refine (name_calls k.1 _).mono ?_
          rintro e_ w7 ⟨rfl, hb7⟩
          rw [HNAME.out]
          refine ⟨_, rfl, ?_⟩
          refine hK.out _ _ ⟨(hb7.cell (World.block_lt_of_cell? _ _ hHeld.1)).trans hHeld.1, hHeld.2.trans (hb7.mono hHeld.2.size)⟩ (fun hHeld => ?_)
          clear hK K
          refine norm_ (a' := ?_) ?_ ?_
          rotate_left
          · show Act.put _ (some 56) _ = _
            simp only [Act.put, List.setIfInBounds_toArray, List.set_cons_zero, List.set_cons_succ, i64_w, i32_w]
            rfl
          clear hb7
          refine pure_ (i := 3) (N := some 57) (v := ?_) (a' := ?_) #[true, true, true, true, false, false, false, false, false, false, false, false, false, false, false, false, false, false, false, false, false, false, false, false, false, false, false, false] rfl rfl (by kernel_rfl) (fun _ _ _ h => h) (Or.inl ⟨by rfl, ?_⟩) ?_ ?_
          rotate_left
          · intro w'
            go_simp
            with_reducible rfl
          rotate_left
          · simp only [Act.put, List.setIfInBounds_toArray, List.set_cons_zero, List.set_cons_succ, i64_w, i32_w]
            rfl
          refine pure_ (i := 4) (N := some 58) (v := ?_) (a' := ?_) #[true, true, true, true, true, false, false, false, false, false, false, false, false, false, false, false, false, false, false, false, false, false, false, false, false, false, false, false] rfl rfl (by kernel_rfl) (fun _ _ _ h => h) (Or.inl ⟨by rfl, ?_⟩) ?_ ?_
          rotate_left
          · intro w'
            go_simp
            with_reducible rfl
          rotate_left
          · simp only [Act.put, List.setIfInBounds_toArray, List.set_cons_zero, List.set_cons_succ, i64_w, i32_w]
            rfl
          refine pure_ (i := 5) (N := some 59) (v := ?_) (a' := ?_) #[true, true, true, true, true, true, false, false, false, false, false, false, false, false, false, false, false, false, false, false, false, false, false, false, false, false, false, false] rfl rfl (by kernel_rfl) (fun _ _ _ h => h) (Or.inl ⟨by rfl, ?_⟩) ?_ ?_
          rotate_left
          · intro w'
            go_simp
            with_reducible rfl
          rotate_left
          · simp only [Act.put, List.setIfInBounds_toArray, List.set_cons_zero, List.set_cons_succ, i64_w, i32_w]
            rfl
          refine pure_ (i := 6) (N := some 60) (v := ?_) (a' := ?_) #[true, true, true, true, true, true, true, false, false, false, false, false, false, false, false, false, false, false, false, false, false, false, false, false, false, false, false, false] rfl rfl (by kernel_rfl) (fun _ _ _ h => h) (Or.inl ⟨by rfl, ?_⟩) ?_ ?_
          rotate_left
          · intro w'
            go_simp
            with_reducible rfl
          rotate_left
          · simp only [Act.put, List.setIfInBounds_toArray, List.set_cons_zero, List.set_cons_succ, i64_w, i32_w]
            rfl
          refine pure_ (i := 7) (N := some 61) (v := ?_) (a' := ?_) #[true, true, true, true, true, true, true, true, false, false, false, false, false, false, false, false, false, false, false, false, false, false, false, false, false, false, false, false] rfl rfl (by kernel_rfl) (fun _ _ _ h => h) (Or.inl ⟨by rfl, ?_⟩) ?_ ?_
          rotate_left
          · intro w'
            go_simp
            with_reducible rfl
          rotate_left
          · simp only [Act.put, List.setIfInBounds_toArray, List.set_cons_zero, List.set_cons_succ, i64_w, i32_w]
            rfl
          refine pure_ (i := 8) (N := some 62) (v := undef) (a' := ?_) #[true, true, true, true, true, true, true, true, true, false, false, false, false, false, false, false, false, false, false, false, false, false, false, false, false, false, false, false] rfl rfl (by kernel_rfl) (fun _ _ _ h => h) (Or.inr ⟨by rfl, rfl⟩) ?_ ?_
          rotate_left
          · simp only [Act.put, List.setIfInBounds_toArray, List.set_cons_zero, List.set_cons_succ, i64_w, i32_w]
            rfl
          refine pure_ (i := 9) (N := some 63) (v := undef) (a' := ?_) #[true, true, true, true, true, true, true, true, true, true, false, false, false, false, false, false, false, false, false, false, false, false, false, false, false, false, false, false] rfl rfl (by kernel_rfl) (fun _ _ _ h => h) (Or.inr ⟨by rfl, rfl⟩) ?_ ?_
          rotate_left
          · simp only [Act.put, List.setIfInBounds_toArray, List.set_cons_zero, List.set_cons_succ, i64_w, i32_w]
            rfl
          refine pure_ (i := 10) (N := some 64) (v := undef) (a' := ?_) #[true, true, true, true, true, true, true, true, true, true, true, false, false, false, false, false, false, false, false, false, false, false, false, false, false, false, false, false] rfl rfl (by kernel_rfl) (fun _ _ _ h => h) (Or.inr ⟨by rfl, rfl⟩) ?_ ?_
          rotate_left
          · simp only [Act.put, List.setIfInBounds_toArray, List.set_cons_zero, List.set_cons_succ, i64_w, i32_w]
            rfl
          refine pure_ (i := 11) (N := some 65) (v := undef) (a' := ?_) #[true, true, true, true, true, true, true, true, true, true, true, true, false, false, false, false, false, false, false, false, false, false, false, false, false, false, false, false] rfl rfl (by kernel_rfl) (fun _ _ _ h => h) (Or.inr ⟨by rfl, rfl⟩) ?_ ?_
          rotate_left
          · simp only [Act.put, List.setIfInBounds_toArray, List.set_cons_zero, List.set_cons_succ, i64_w, i32_w]
            rfl
          refine pure_ (i := 12) (N := some 66) (v := undef) (a' := ?_) #[true, true, true, true, true, true, true, true, true, true, true, true, true, false, false, false, false, false, false, false, false, false, false, false, false, false, false, false] rfl rfl (by kernel_rfl) (fun _ _ _ h => h) (Or.inr ⟨by rfl, rfl⟩) ?_ ?_
          rotate_left
          · simp only [Act.put, List.setIfInBounds_toArray, List.set_cons_zero, List.set_cons_succ, i64_w, i32_w]
            rfl
          refine pure_ (i := 13) (N := some 67) (v := undef) (a' := ?_) #[true, true, true, true, true, true, true, true, true, true, true, true, true, true, false, false, false, false, false, false, false, false, false, false, false, false, false, false] rfl rfl (by kernel_rfl) (fun _ _ _ h => h) (Or.inr ⟨by rfl, rfl⟩) ?_ ?_
          rotate_left
          · simp only [Act.put, List.setIfInBounds_toArray, List.set_cons_zero, List.set_cons_succ, i64_w, i32_w]
            rfl
          refine pure_ (i := 14) (N := some 68) (v := undef) (a' := ?_) #[true, true, true, true, true, true, true, true, true, true, true, true, true, true, true, false, false, false, false, false, false, false, false, false, false, false, false, false] rfl rfl (by kernel_rfl) (fun _ _ _ h => h) (Or.inr ⟨by rfl, rfl⟩) ?_ ?_
          rotate_left
          · simp only [Act.put, List.setIfInBounds_toArray, List.set_cons_zero, List.set_cons_succ, i64_w, i32_w]
            rfl
          refine pure_ (i := 15) (N := some 69) (v := undef) (a' := ?_) #[true, true, true, true, true, true, true, true, true, true, true, true, true, true, true, true, false, false, false, false, false, false, false, false, false, false, false, false] rfl rfl (by kernel_rfl) (fun _ _ _ h => h) (Or.inr ⟨by rfl, rfl⟩) ?_ ?_
          rotate_left
          · simp only [Act.put, List.setIfInBounds_toArray, List.set_cons_zero, List.set_cons_succ, i64_w, i32_w]
            rfl
          refine pure_ (i := 16) (N := some 70) (v := undef) (a' := ?_) #[true, true, true, true, true, true, true, true, true, true, true, true, true, true, true, true, true, false, false, false, false, false, false, false, false, false, false, false] rfl rfl (by kernel_rfl) (fun _ _ _ h => h) (Or.inr ⟨by rfl, rfl⟩) ?_ ?_
          rotate_left
          · simp only [Act.put, List.setIfInBounds_toArray, List.set_cons_zero, List.set_cons_succ, i64_w, i32_w]
            rfl
          refine pure_ (i := 17) (N := some 71) (v := undef) (a' := ?_) #[true, true, true, true, true, true, true, true, true, true, true, true, true, true, true, true, true, true, false, false, false, false, false, false, false, false, false, false] rfl rfl (by kernel_rfl) (fun _ _ _ h => h) (Or.inr ⟨by rfl, rfl⟩) ?_ ?_
          rotate_left
          · simp only [Act.put, List.setIfInBounds_toArray, List.set_cons_zero, List.set_cons_succ, i64_w, i32_w]
            rfl
          refine pure_ (i := 18) (N := some 72) (v := ?_) (a' := ?_) #[true, true, true, true, true, true, true, true, true, true, true, true, true, true, true, true, true, true, true, false, false, false, false, false, false, false, false, false] rfl rfl (by kernel_rfl) (fun _ _ _ h => h) (Or.inl ⟨by rfl, ?_⟩) ?_ ?_
          rotate_left
          · intro w'
            go_simp
            with_reducible rfl
          rotate_left
          · simp only [Act.put, List.setIfInBounds_toArray, List.set_cons_zero, List.set_cons_succ, i64_w, i32_w]
            rfl
          refine pure_ (i := 19) (N := some 73) (v := ?_) (a' := ?_) #[true, true, true, true, true, true, true, true, true, true, true, true, true, true, true, true, true, true, true, true, false, false, false, false, false, false, false, false] rfl rfl (by kernel_rfl) (fun _ _ _ h => h) (Or.inl ⟨by rfl, ?_⟩) ?_ ?_
          rotate_left
          · intro w'
            go_simp
            with_reducible rfl
          rotate_left
          · simp only [Act.put, List.setIfInBounds_toArray, List.set_cons_zero, List.set_cons_succ, i64_w, i32_w]
            rfl
          refine pure_ (i := 20) (N := some 74) (v := ?_) (a' := ?_) #[true, true, true, true, true, true, true, true, true, true, true, true, true, true, true, true, true, true, true, true, true, false, false, false, false, false, false, false] rfl rfl (by kernel_rfl) (fun _ _ _ h => h) (Or.inl ⟨by rfl, ?_⟩) ?_ ?_
          rotate_left
          · intro w'
            go_simp
            with_reducible rfl
          rotate_left
          · simp only [Act.put, List.setIfInBounds_toArray, List.set_cons_zero, List.set_cons_succ, i64_w, i32_w]
            rfl
          refine pure_ (i := 21) (N := some 75) (v := ?_) (a' := ?_) #[true, true, true, true, true, true, true, true, true, true, true, true, true, true, true, true, true, true, true, true, true, true, false, false, false, false, false, false] rfl rfl (by kernel_rfl) (fun _ _ _ h => h) (Or.inl ⟨by rfl, ?_⟩) ?_ ?_
          rotate_left
          · intro w'
            go_simp
            with_reducible rfl
          rotate_left
          · simp only [Act.put, List.setIfInBounds_toArray, List.set_cons_zero, List.set_cons_succ, i64_w, i32_w]
            rfl
          refine pure_ (i := 22) (N := some 76) (v := ?_) (a' := ?_) #[true, true, true, true, true, true, true, true, true, true, true, true, true, true, true, true, true, true, true, true, true, true, true, false, false, false, false, false] rfl rfl (by kernel_rfl) (fun _ _ _ h => h) (Or.inl ⟨by rfl, ?_⟩) ?_ ?_
          rotate_left
          · intro w'
            go_simp
            with_reducible rfl
          rotate_left
          · simp only [Act.put, List.setIfInBounds_toArray, List.set_cons_zero, List.set_cons_succ, i64_w, i32_w]
            rfl
          refine pure_ (i := 23) (N := some 77) (v := ?_) (a' := ?_) #[true, true, true, true, true, true, true, true, true, true, true, true, true, true, true, true, true, true, true, true, true, true, true, true, false, false, false, false] rfl rfl (by kernel_rfl) (fun _ _ _ h => h) (Or.inl ⟨by rfl, ?_⟩) ?_ ?_
          rotate_left
          · intro w'
            go_simp
            with_reducible rfl
          rotate_left
          · simp only [Act.put, List.setIfInBounds_toArray, List.set_cons_zero, List.set_cons_succ, i64_w, i32_w]
            rfl
          refine pure_ (i := 24) (N := some 78) (v := undef) (a' := ?_) #[true, true, true, true, true, true, true, true, true, true, true, true, true, true, true, true, true, true, true, true, true, true, true, true, true, false, false, false] rfl rfl (by kernel_rfl) (fun _ _ _ h => h) (Or.inr ⟨by rfl, rfl⟩) ?_ ?_
          rotate_left
          · simp only [Act.put, List.setIfInBounds_toArray, List.set_cons_zero, List.set_cons_succ, i64_w, i32_w]
            rfl
          refine pure_ (i := 25) (N := some 79) (v := undef) (a' := ?_) #[true, true, true, true, true, true, true, true, true, true, true, true, true, true, true, true, true, true, true, true, true, true, true, true, true, true, false, false] rfl rfl (by kernel_rfl) (fun _ _ _ h => h) (Or.inr ⟨by rfl, rfl⟩) ?_ ?_
          rotate_left
          · simp only [Act.put, List.setIfInBounds_toArray, List.set_cons_zero, List.set_cons_succ, i64_w, i32_w]
            rfl
          refine pure_ (i := 26) (N := some 80) (v := ?_) (a' := ?_) #[true, true, true, true, true, true, true, true, true, true, true, true, true, true, true, true, true, true, true, true, true, true, true, true, true, true, true, false] rfl rfl (by kernel_rfl) (fun _ _ _ h => h) (Or.inl ⟨by rfl, ?_⟩) ?_ ?_
          rotate_left
          · intro w'
            go_simp
            with_reducible rfl
          rotate_left
          · simp only [Act.put, List.setIfInBounds_toArray, List.set_cons_zero, List.set_cons_succ, i64_w, i32_w]
            rfl
          refine pure_ (i := 27) (N := some 81) (v := ?_) (a' := ?_) #[true, true, true, true, true, true, true, true, true, true, true, true, true, true, true, true, true, true, true, true, true, true, true, true, true, true, true, true] rfl rfl (by kernel_rfl) (fun _ _ _ h => h) (Or.inl ⟨by rfl, ?_⟩) ?_ ?_
          rotate_left
          · intro w'
            go_simp
            with_reducible rfl
          rotate_left
          · simp only [Act.put, List.setIfInBounds_toArray, List.set_cons_zero, List.set_cons_succ, i64_w, i32_w]
            rfl
          refine done_ (by kernel_rfl) ?_
          have HBE := Aside0.mk hHeld
          clear hHeld hS
          go_wp2
          clear q4
          go_roundg (gk - 1)
          case measure => have := HJ.out; have := HLT.out; omega
          case rel => exact ⟨j + 1, jv + 1, by first | rfl | rw [w1_], ⟨by have := HJV.out; omega⟩, ⟨by have := HLT.out; omega, by have := HJ.out; omega⟩, ⟨HBW6.out.trans (HBE.out.2.mono HBW6.out.size)⟩⟩
        · obtain ⟨i, hi⟩ : ∃ i, j = i + 1 := ⟨j - 1, by omega⟩
          obtain ⟨k', hk'⟩ : ∃ k', l[i]? = some k' := ⟨_, List.getElem?_eq_getElem (by have := HLT.out; omega)⟩
          obtain ⟨g6, hA6, -, hrg6⟩ := link_at HR6.out rfl hk'
          obtain rfl : g5 = g6 := by simpa using hA6
          have x0 : w6.cell? ⟨g5, i * 3, none⟩ = some (.string k'.1) := hrg6 0 _ rfl
          have hbef : bytesBefore k'.1.data.toList k.1.data.toList = true := names_at HN.out hk' HKE.out (by omega)
          have t1 : decide (0 < jv) = true := decide_eq_true (by have := HJV.out; omega)
          have v1 : (jv - 1).toNat = i := by have := HJV.out; omega
          have v2 : (0 : Int) ≤ jv - 1 := by have := HJV.out; omega
          have v3 : (1 : Int) ≤ jv := by omega
          have v4 : jv ≤ (l.length : Int) := by have := HJV.out; have := HLT.out; omega
          have v5 : (jv - 1 < (l.length : Int)) = True := eq_true (by omega)
          have v6 : ((0 : Int) ≤ jv - 1) = True := eq_true v2
          have v7 : ((1 : Int) ≤ jv) = True := eq_true v3
          have v8 : (jv ≤ (l.length : Int)) = True := eq_true v4
          have hge : Op.bytesLess k'.1.toList k.1.toList = true := by rw [less_before, ByteArray.toList_eq, ByteArray.toList_eq, hbef]
          have hS : w6.drew.cell? ⟨xb, 0, none⟩ = some (.string k.1) ∧ w6.drew.cell? ⟨wb, 2, none⟩ = some (.slice (some ⟨g5, 0, none⟩) l.length c) ∧ w6.drew.cell? ⟨g5, i * 3, none⟩ = some (.string k'.1) ∧ Below w6.heap.size w6 w6.drew := ⟨y0, p2, x0, below_drew (Below.refl _ _)⟩
          clear hrg6 hA6 hk'
          refine start_ (n := 28) (S := fun W' => W'.cell? ⟨xb, 0, none⟩ = some (.string k.1) ∧ W'.cell? ⟨wb, 2, none⟩ = some (.slice (some ⟨g5, 0, none⟩) l.length c) ∧ W'.cell? ⟨g5, i * 3, none⟩ = some (.string k'.1) ∧ Below w6.heap.size w6 W') (ds := []) #[false, false, false, false, false, false, false, false, false, false, false, false, false, false, false, false, false, false, false, false, false, false, false, false, false, false, false, false] (by kernel_rfl) rfl rfl hS (fun hHeld => ?_)
          refine pure_ (i := 0) (N := some 54) (v := ?_) (a' := ?_) #[true, false, false, false, false, false, false, false, false, false, false, false, false, false, false, false, false, false, false, false, false, false, false, false, false, false, false, false] rfl rfl (by kernel_rfl) (fun _ _ _ h => h) (Or.inl ⟨by rfl, ?_⟩) ?_ ?_
          rotate_left
          · intro w'
            go_simp
            with_reducible rfl
          rotate_left
          · simp only [Act.put, List.setIfInBounds_toArray, List.set_cons_zero, List.set_cons_succ, i64_w, i32_w]
            rfl
          refine take_ (i := 1) (N := some 55) (v := ?_) (a' := ?_) #[true, true, false, false, false, false, false, false, false, false, false, false, false, false, false, false, false, false, false, false, false, false, false, false, false, false, false, false] rfl rfl (by kernel_rfl) (fun _ _ _ h => h) (Or.inl ⟨by rfl, ?_⟩) hHeld ?_ ?_
          rotate_left
          · rintro w' ⟨s1_, s2_, s3_, s4_⟩
            go_simp
            with_reducible rfl
          rotate_left
          · simp only [Act.put, List.setIfInBounds_toArray, List.set_cons_zero, List.set_cons_succ, i64_w, i32_w]
            rfl
          refine one_ (i := 2) (N := some 56) #[true, true, true, false, false, false, false, false, false, false, false, false, false, false, false, false, false, false, false, false, false, false, false, false, false, false, false, false] rfl rfl (by kernel_rfl) (by decide) (fun K hK => ?_)
          skip
          refine goes_ Tryz.func81 (by kernel_rfl) rfl #[.string k.1] (by rfl) rfl rfl (by (simp only [List.map_toArray, List.map_cons, List.map_nil]); rfl) ?_
          refine (name_calls k.1 _).mono ?_
          rintro e_ w7 ⟨rfl, hb7⟩
          rw [HNAME.out]
          refine ⟨_, rfl, ?_⟩
          refine hK.out _ _ ⟨(hb7.cell (World.block_lt_of_cell? _ _ hHeld.1)).trans hHeld.1, (hb7.cell (World.block_lt_of_cell? _ _ hHeld.2.1)).trans hHeld.2.1, (hb7.cell (World.block_lt_of_cell? _ _ hHeld.2.2.1)).trans hHeld.2.2.1, hHeld.2.2.2.trans (hb7.mono hHeld.2.2.2.size)⟩ (fun hHeld => ?_)
          clear hK K
          refine norm_ (a' := ?_) ?_ ?_
          rotate_left
          · show Act.put _ (some 56) _ = _
            simp only [Act.put, List.setIfInBounds_toArray, List.set_cons_zero, List.set_cons_succ, i64_w, i32_w]
            rfl
          clear hb7
          refine pure_ (i := 3) (N := some 57) (v := ?_) (a' := ?_) #[true, true, true, true, false, false, false, false, false, false, false, false, false, false, false, false, false, false, false, false, false, false, false, false, false, false, false, false] rfl rfl (by kernel_rfl) (fun _ _ _ h => h) (Or.inl ⟨by rfl, ?_⟩) ?_ ?_
          rotate_left
          · intro w'
            go_simp
            with_reducible rfl
          rotate_left
          · simp only [Act.put, List.setIfInBounds_toArray, List.set_cons_zero, List.set_cons_succ, i64_w, i32_w]
            rfl
          refine pure_ (i := 4) (N := some 58) (v := ?_) (a' := ?_) #[true, true, true, true, true, false, false, false, false, false, false, false, false, false, false, false, false, false, false, false, false, false, false, false, false, false, false, false] rfl rfl (by kernel_rfl) (fun _ _ _ h => h) (Or.inl ⟨by rfl, ?_⟩) ?_ ?_
          rotate_left
          · intro w'
            go_simp
            with_reducible rfl
          rotate_left
          · simp only [Act.put, List.setIfInBounds_toArray, List.set_cons_zero, List.set_cons_succ, i64_w, i32_w]
            rfl
          refine pure_ (i := 5) (N := some 59) (v := ?_) (a' := ?_) #[true, true, true, true, true, true, false, false, false, false, false, false, false, false, false, false, false, false, false, false, false, false, false, false, false, false, false, false] rfl rfl (by kernel_rfl) (fun _ _ _ h => h) (Or.inl ⟨by rfl, ?_⟩) ?_ ?_
          rotate_left
          · intro w'
            go_simp
            with_reducible rfl
          rotate_left
          · simp only [Act.put, List.setIfInBounds_toArray, List.set_cons_zero, List.set_cons_succ, i64_w, i32_w]
            rfl
          refine pure_ (i := 6) (N := some 60) (v := ?_) (a' := ?_) #[true, true, true, true, true, true, true, false, false, false, false, false, false, false, false, false, false, false, false, false, false, false, false, false, false, false, false, false] rfl rfl (by kernel_rfl) (fun _ _ _ h => h) (Or.inl ⟨by rfl, ?_⟩) ?_ ?_
          rotate_left
          · intro w'
            go_simp
            with_reducible rfl
          rotate_left
          · simp only [Act.put, List.setIfInBounds_toArray, List.set_cons_zero, List.set_cons_succ, i64_w, i32_w]
            rfl
          refine pure_ (i := 7) (N := some 61) (v := ?_) (a' := ?_) #[true, true, true, true, true, true, true, true, false, false, false, false, false, false, false, false, false, false, false, false, false, false, false, false, false, false, false, false] rfl rfl (by kernel_rfl) (fun _ _ _ h => h) (Or.inl ⟨by rfl, ?_⟩) ?_ ?_
          rotate_left
          · intro w'
            go_simp
            with_reducible rfl
          rotate_left
          · simp only [Act.put, List.setIfInBounds_toArray, List.set_cons_zero, List.set_cons_succ, i64_w, i32_w]
            rfl
          refine pure_ (i := 8) (N := some 62) (v := ?_) (a' := ?_) #[true, true, true, true, true, true, true, true, true, false, false, false, false, false, false, false, false, false, false, false, false, false, false, false, false, false, false, false] rfl rfl (by kernel_rfl) (fun _ _ _ h => h) (Or.inl ⟨by rfl, ?_⟩) ?_ ?_
          rotate_left
          · intro w'
            go_simp
            with_reducible rfl
          rotate_left
          · simp only [Act.put, List.setIfInBounds_toArray, List.set_cons_zero, List.set_cons_succ, i64_w, i32_w]
            rfl
          refine take_ (i := 9) (N := some 63) (v := ?_) (a' := ?_) #[true, true, true, true, true, true, true, true, true, true, false, false, false, false, false, false, false, false, false, false, false, false, false, false, false, false, false, false] rfl rfl (by kernel_rfl) (fun _ _ _ h => h) (Or.inl ⟨by rfl, ?_⟩) hHeld ?_ ?_
          rotate_left
          · rintro w' ⟨s1_, s2_, s3_, s4_⟩
            go_simp
            with_reducible rfl
          rotate_left
          · simp only [Act.put, List.setIfInBounds_toArray, List.set_cons_zero, List.set_cons_succ, i64_w, i32_w]
            rfl
          refine pure_ (i := 10) (N := some 64) (v := ?_) (a' := ?_) #[true, true, true, true, true, true, true, true, true, true, true, false, false, false, false, false, false, false, false, false, false, false, false, false, false, false, false, false] rfl rfl (by kernel_rfl) (fun _ _ _ h => h) (Or.inl ⟨by rfl, ?_⟩) ?_ ?_
          rotate_left
          · intro w'
            go_simp
            with_reducible rfl
          rotate_left
          · simp only [Act.put, List.setIfInBounds_toArray, List.set_cons_zero, List.set_cons_succ, i64_w, i32_w]
            rfl
          refine pure_ (i := 11) (N := some 65) (v := ?_) (a' := ?_) #[true, true, true, true, true, true, true, true, true, true, true, true, false, false, false, false, false, false, false, false, false, false, false, false, false, false, false, false] rfl rfl (by kernel_rfl) (fun _ _ _ h => h) (Or.inl ⟨by rfl, ?_⟩) ?_ ?_
          rotate_left
          · intro w'
            go_simp
            with_reducible rfl
          rotate_left
          · simp only [Act.put, List.setIfInBounds_toArray, List.set_cons_zero, List.set_cons_succ, i64_w, i32_w]
            rfl
          refine pure_ (i := 12) (N := some 66) (v := ?_) (a' := ?_) #[true, true, true, true, true, true, true, true, true, true, true, true, true, false, false, false, false, false, false, false, false, false, false, false, false, false, false, false] rfl rfl (by kernel_rfl) (fun _ _ _ h => h) (Or.inl ⟨by rfl, ?_⟩) ?_ ?_
          rotate_left
          · intro w'
            go_simp
            with_reducible rfl
          rotate_left
          · simp only [Act.put, List.setIfInBounds_toArray, List.set_cons_zero, List.set_cons_succ, i64_w, i32_w]
            rfl
          refine pure_ (i := 13) (N := some 67) (v := ?_) (a' := ?_) #[true, true, true, true, true, true, true, true, true, true, true, true, true, true, false, false, false, false, false, false, false, false, false, false, false, false, false, false] rfl rfl (by kernel_rfl) (fun _ _ _ h => h) (Or.inl ⟨by rfl, ?_⟩) ?_ ?_
          rotate_left
          · intro w'
            go_simp
            with_reducible rfl
          rotate_left
          · simp only [Act.put, List.setIfInBounds_toArray, List.set_cons_zero, List.set_cons_succ, i64_w, i32_w]
            rfl
          refine take_ (i := 14) (N := some 68) (v := ?_) (a' := ?_) #[true, true, true, true, true, true, true, true, true, true, true, true, true, true, true, false, false, false, false, false, false, false, false, false, false, false, false, false] rfl rfl (by kernel_rfl) (fun _ _ _ h => h) (Or.inl ⟨by rfl, ?_⟩) hHeld ?_ ?_
          rotate_left
          · rintro w' ⟨s1_, s2_, s3_, s4_⟩
            go_simp
            with_reducible rfl
          rotate_left
          · simp only [Act.put, List.setIfInBounds_toArray, List.set_cons_zero, List.set_cons_succ, i64_w, i32_w]
            rfl
          refine pure_ (i := 15) (N := some 69) (v := ?_) (a' := ?_) #[true, true, true, true, true, true, true, true, true, true, true, true, true, true, true, true, false, false, false, false, false, false, false, false, false, false, false, false] rfl rfl (by kernel_rfl) (fun _ _ _ h => h) (Or.inl ⟨by rfl, ?_⟩) ?_ ?_
          rotate_left
          · intro w'
            go_simp
            with_reducible rfl
          rotate_left
          · simp only [Act.put, List.setIfInBounds_toArray, List.set_cons_zero, List.set_cons_succ, i64_w, i32_w]
            rfl
          refine take_ (i := 16) (N := some 70) (v := ?_) (a' := ?_) #[true, true, true, true, true, true, true, true, true, true, true, true, true, true, true, true, true, false, false, false, false, false, false, false, false, false, false, false] rfl rfl (by kernel_rfl) (fun _ _ _ h => h) (Or.inl ⟨by rfl, ?_⟩) hHeld ?_ ?_
          rotate_left
          · rintro w' ⟨s1_, s2_, s3_, s4_⟩
            go_simp
            with_reducible rfl
          rotate_left
          · simp only [Act.put, List.setIfInBounds_toArray, List.set_cons_zero, List.set_cons_succ, i64_w, i32_w]
            rfl
          refine pure_ (i := 17) (N := some 71) (v := ?_) (a' := ?_) #[true, true, true, true, true, true, true, true, true, true, true, true, true, true, true, true, true, true, false, false, false, false, false, false, false, false, false, false] rfl rfl (by kernel_rfl) (fun _ _ _ h => h) (Or.inl ⟨by rfl, ?_⟩) ?_ ?_
          rotate_left
          · intro w'
            go_simp
            with_reducible rfl
          rotate_left
          · simp only [Act.put, List.setIfInBounds_toArray, List.set_cons_zero, List.set_cons_succ, i64_w, i32_w]
            rfl
          refine pure_ (i := 18) (N := some 72) (v := ?_) (a' := ?_) #[true, true, true, true, true, true, true, true, true, true, true, true, true, true, true, true, true, true, true, false, false, false, false, false, false, false, false, false] rfl rfl (by kernel_rfl) (fun _ _ _ h => h) (Or.inl ⟨by rfl, ?_⟩) ?_ ?_
          rotate_left
          · intro w'
            go_simp
            with_reducible rfl
          rotate_left
          · simp only [Act.put, List.setIfInBounds_toArray, List.set_cons_zero, List.set_cons_succ, i64_w, i32_w]
            rfl
          refine pure_ (i := 19) (N := some 73) (v := ?_) (a' := ?_) #[true, true, true, true, true, true, true, true, true, true, true, true, true, true, true, true, true, true, true, true, false, false, false, false, false, false, false, false] rfl rfl (by kernel_rfl) (fun _ _ _ h => h) (Or.inl ⟨by rfl, ?_⟩) ?_ ?_
          rotate_left
          · intro w'
            go_simp
            with_reducible rfl
          rotate_left
          · simp only [Act.put, List.setIfInBounds_toArray, List.set_cons_zero, List.set_cons_succ, i64_w, i32_w]
            rfl
          refine pure_ (i := 20) (N := some 74) (v := ?_) (a' := ?_) #[true, true, true, true, true, true, true, true, true, true, true, true, true, true, true, true, true, true, true, true, true, false, false, false, false, false, false, false] rfl rfl (by kernel_rfl) (fun _ _ _ h => h) (Or.inl ⟨by rfl, ?_⟩) ?_ ?_
          rotate_left
          · intro w'
            go_simp
            with_reducible rfl
          rotate_left
          · simp only [Act.put, List.setIfInBounds_toArray, List.set_cons_zero, List.set_cons_succ, i64_w, i32_w]
            rfl
          refine pure_ (i := 21) (N := some 75) (v := ?_) (a' := ?_) #[true, true, true, true, true, true, true, true, true, true, true, true, true, true, true, true, true, true, true, true, true, true, false, false, false, false, false, false] rfl rfl (by kernel_rfl) (fun _ _ _ h => h) (Or.inl ⟨by rfl, ?_⟩) ?_ ?_
          rotate_left
          · intro w'
            go_simp
            with_reducible rfl
          rotate_left
          · simp only [Act.put, List.setIfInBounds_toArray, List.set_cons_zero, List.set_cons_succ, i64_w, i32_w]
            rfl
          refine pure_ (i := 22) (N := some 76) (v := ?_) (a' := ?_) #[true, true, true, true, true, true, true, true, true, true, true, true, true, true, true, true, true, true, true, true, true, true, true, false, false, false, false, false] rfl rfl (by kernel_rfl) (fun _ _ _ h => h) (Or.inl ⟨by rfl, ?_⟩) ?_ ?_
          rotate_left
          · intro w'
            go_simp
            with_reducible rfl
          rotate_left
          · simp only [Act.put, List.setIfInBounds_toArray, List.set_cons_zero, List.set_cons_succ, i64_w, i32_w]
            rfl
          refine pure_ (i := 23) (N := some 77) (v := ?_) (a' := ?_) #[true, true, true, true, true, true, true, true, true, true, true, true, true, true, true, true, true, true, true, true, true, true, true, true, false, false, false, false] rfl rfl (by kernel_rfl) (fun _ _ _ h => h) (Or.inl ⟨by rfl, ?_⟩) ?_ ?_
          rotate_left
          · intro w'
            go_simp
            with_reducible rfl
          rotate_left
          · simp only [Act.put, List.setIfInBounds_toArray, List.set_cons_zero, List.set_cons_succ, i64_w, i32_w]
            rfl
          refine pure_ (i := 24) (N := some 78) (v := undef) (a' := ?_) #[true, true, true, true, true, true, true, true, true, true, true, true, true, true, true, true, true, true, true, true, true, true, true, true, true, false, false, false] rfl rfl (by kernel_rfl) (fun _ _ _ h => h) (Or.inr ⟨by rfl, rfl⟩) ?_ ?_
          rotate_left
          · simp only [Act.put, List.setIfInBounds_toArray, List.set_cons_zero, List.set_cons_succ, i64_w, i32_w]
            rfl
          refine pure_ (i := 25) (N := some 79) (v := undef) (a' := ?_) #[true, true, true, true, true, true, true, true, true, true, true, true, true, true, true, true, true, true, true, true, true, true, true, true, true, true, false, false] rfl rfl (by kernel_rfl) (fun _ _ _ h => h) (Or.inr ⟨by rfl, rfl⟩) ?_ ?_
          rotate_left
          · simp only [Act.put, List.setIfInBounds_toArray, List.set_cons_zero, List.set_cons_succ, i64_w, i32_w]
            rfl
          refine pure_ (i := 26) (N := some 80) (v := ?_) (a' := ?_) #[true, true, true, true, true, true, true, true, true, true, true, true, true, true, true, true, true, true, true, true, true, true, true, true, true, true, true, false] rfl rfl (by kernel_rfl) (fun _ _ _ h => h) (Or.inl ⟨by rfl, ?_⟩) ?_ ?_
          rotate_left
          · intro w'
            go_simp
            with_reducible rfl
          rotate_left
          · simp only [Act.put, List.setIfInBounds_toArray, List.set_cons_zero, List.set_cons_succ, i64_w, i32_w]
            rfl
          refine pure_ (i := 27) (N := some 81) (v := ?_) (a' := ?_) #[true, true, true, true, true, true, true, true, true, true, true, true, true, true, true, true, true, true, true, true, true, true, true, true, true, true, true, true] rfl rfl (by kernel_rfl) (fun _ _ _ h => h) (Or.inl ⟨by rfl, ?_⟩) ?_ ?_
          rotate_left
          · intro w'
            go_simp
            with_reducible rfl
          rotate_left
          · simp only [Act.put, List.setIfInBounds_toArray, List.set_cons_zero, List.set_cons_succ, i64_w, i32_w]
            rfl
          refine done_ (by kernel_rfl) ?_
          have HBE := Aside0.mk hHeld
          clear hHeld hS
          go_wp2
          clear q4
          go_roundg (gk - 1)
          case measure => have := HJ.out; have := HLT.out; omega
          case rel => exact ⟨j + 1, jv + 1, by first | rfl | rw [w1_], ⟨by have := HJV.out; omega⟩, ⟨by have := HLT.out; omega, by have := HJ.out; omega⟩, ⟨HBW6.out.trans (HBE.out.2.2.2.mono HBW6.out.size)⟩⟩
      · rw [hs0] at y2
        have g1 : decide (1 < k.2.1) = true := decide_eq_true (by omega)
        have g2 : (k.2.1 == 0) = false := by simpa using (by omega : ¬ k.2.1 = 0)
        clear h2 hs0
        go_upto_region 9 with (fail)
        clear g1 g2 y1
        by_cases hj0 : j = 0
        · have t1 : decide (0 < jv) = false := decide_eq_false (by have := HJV.out; omega)
          have hS : w6.drew.cell? ⟨xb, 0, none⟩ = some (.string k.1) ∧ Below w6.heap.size w6 w6.drew := ⟨y0, below_drew (Below.refl _ _)⟩
          refine start_ (n := 28) (S := fun W' => W'.cell? ⟨xb, 0, none⟩ = some (.string k.1) ∧ Below w6.heap.size w6 W') (ds := []) #[false, false, false, false, false, false, false, false, false, false, false, false, false, false, false, false, false, false, false, false, false, false, false, false, false, false, false, false] (by kernel_rfl) rfl rfl hS (fun hHeld => ?_)
          refine pure_ (i := 0) (N := some 54) (v := ?_) (a' := ?_) #[true, false, false, false, false, false, false, false, false, false, false, false, false, false, false, false, false, false, false, false, false, false, false, false, false, false, false, false] rfl rfl (by kernel_rfl) (fun _ _ _ h => h) (Or.inl ⟨by rfl, ?_⟩) ?_ ?_
          rotate_left
          · intro w'
            go_simp
            with_reducible rfl
          rotate_left
          · simp only [Act.put, List.setIfInBounds_toArray, List.set_cons_zero, List.set_cons_succ, i64_w, i32_w]
            rfl
          refine take_ (i := 1) (N := some 55) (v := ?_) (a' := ?_) #[true, true, false, false, false, false, false, false, false, false, false, false, false, false, false, false, false, false, false, false, false, false, false, false, false, false, false, false] rfl rfl (by kernel_rfl) (fun _ _ _ h => h) (Or.inl ⟨by rfl, ?_⟩) hHeld ?_ ?_
          rotate_left
          · rintro w' ⟨s1_, s2_⟩
            go_simp
            with_reducible rfl
          rotate_left
          · simp only [Act.put, List.setIfInBounds_toArray, List.set_cons_zero, List.set_cons_succ, i64_w, i32_w]
            rfl
          refine one_ (i := 2) (N := some 56) #[true, true, true, false, false, false, false, false, false, false, false, false, false, false, false, false, false, false, false, false, false, false, false, false, false, false, false, false] rfl rfl (by kernel_rfl) (by decide) (fun K hK => ?_)
          skip
          refine goes_ Tryz.func81 (by kernel_rfl) rfl #[.string k.1] (by rfl) rfl rfl (by (simp only [List.map_toArray, List.map_cons, List.map_nil]); rfl) ?_
          refine (name_calls k.1 _).mono ?_
          rintro e_ w7 ⟨rfl, hb7⟩
          rw [HNAME.out]
          refine ⟨_, rfl, ?_⟩
          refine hK.out _ _ ⟨(hb7.cell (World.block_lt_of_cell? _ _ hHeld.1)).trans hHeld.1, hHeld.2.trans (hb7.mono hHeld.2.size)⟩ (fun hHeld => ?_)
          clear hK K
          refine norm_ (a' := ?_) ?_ ?_
          rotate_left
          · show Act.put _ (some 56) _ = _
            simp only [Act.put, List.setIfInBounds_toArray, List.set_cons_zero, List.set_cons_succ, i64_w, i32_w]
            rfl
          clear hb7
          refine pure_ (i := 3) (N := some 57) (v := ?_) (a' := ?_) #[true, true, true, true, false, false, false, false, false, false, false, false, false, false, false, false, false, false, false, false, false, false, false, false, false, false, false, false] rfl rfl (by kernel_rfl) (fun _ _ _ h => h) (Or.inl ⟨by rfl, ?_⟩) ?_ ?_
          rotate_left
          · intro w'
            go_simp
            with_reducible rfl
          rotate_left
          · simp only [Act.put, List.setIfInBounds_toArray, List.set_cons_zero, List.set_cons_succ, i64_w, i32_w]
            rfl
          refine pure_ (i := 4) (N := some 58) (v := ?_) (a' := ?_) #[true, true, true, true, true, false, false, false, false, false, false, false, false, false, false, false, false, false, false, false, false, false, false, false, false, false, false, false] rfl rfl (by kernel_rfl) (fun _ _ _ h => h) (Or.inl ⟨by rfl, ?_⟩) ?_ ?_
          rotate_left
          · intro w'
            go_simp
            with_reducible rfl
          rotate_left
          · simp only [Act.put, List.setIfInBounds_toArray, List.set_cons_zero, List.set_cons_succ, i64_w, i32_w]
            rfl
          refine pure_ (i := 5) (N := some 59) (v := ?_) (a' := ?_) #[true, true, true, true, true, true, false, false, false, false, false, false, false, false, false, false, false, false, false, false, false, false, false, false, false, false, false, false] rfl rfl (by kernel_rfl) (fun _ _ _ h => h) (Or.inl ⟨by rfl, ?_⟩) ?_ ?_
          rotate_left
          · intro w'
            go_simp
            with_reducible rfl
          rotate_left
          · simp only [Act.put, List.setIfInBounds_toArray, List.set_cons_zero, List.set_cons_succ, i64_w, i32_w]
            rfl
          refine pure_ (i := 6) (N := some 60) (v := ?_) (a' := ?_) #[true, true, true, true, true, true, true, false, false, false, false, false, false, false, false, false, false, false, false, false, false, false, false, false, false, false, false, false] rfl rfl (by kernel_rfl) (fun _ _ _ h => h) (Or.inl ⟨by rfl, ?_⟩) ?_ ?_
          rotate_left
          · intro w'
            go_simp
            with_reducible rfl
          rotate_left
          · simp only [Act.put, List.setIfInBounds_toArray, List.set_cons_zero, List.set_cons_succ, i64_w, i32_w]
            rfl
          refine pure_ (i := 7) (N := some 61) (v := ?_) (a' := ?_) #[true, true, true, true, true, true, true, true, false, false, false, false, false, false, false, false, false, false, false, false, false, false, false, false, false, false, false, false] rfl rfl (by kernel_rfl) (fun _ _ _ h => h) (Or.inl ⟨by rfl, ?_⟩) ?_ ?_
          rotate_left
          · intro w'
            go_simp
            with_reducible rfl
          rotate_left
          · simp only [Act.put, List.setIfInBounds_toArray, List.set_cons_zero, List.set_cons_succ, i64_w, i32_w]
            rfl
          refine pure_ (i := 8) (N := some 62) (v := undef) (a' := ?_) #[true, true, true, true, true, true, true, true, true, false, false, false, false, false, false, false, false, false, false, false, false, false, false, false, false, false, false, false] rfl rfl (by kernel_rfl) (fun _ _ _ h => h) (Or.inr ⟨by rfl, rfl⟩) ?_ ?_
          rotate_left
          · simp only [Act.put, List.setIfInBounds_toArray, List.set_cons_zero, List.set_cons_succ, i64_w, i32_w]
            rfl
          refine pure_ (i := 9) (N := some 63) (v := undef) (a' := ?_) #[true, true, true, true, true, true, true, true, true, true, false, false, false, false, false, false, false, false, false, false, false, false, false, false, false, false, false, false] rfl rfl (by kernel_rfl) (fun _ _ _ h => h) (Or.inr ⟨by rfl, rfl⟩) ?_ ?_
          rotate_left
          · simp only [Act.put, List.setIfInBounds_toArray, List.set_cons_zero, List.set_cons_succ, i64_w, i32_w]
            rfl
          refine pure_ (i := 10) (N := some 64) (v := undef) (a' := ?_) #[true, true, true, true, true, true, true, true, true, true, true, false, false, false, false, false, false, false, false, false, false, false, false, false, false, false, false, false] rfl rfl (by kernel_rfl) (fun _ _ _ h => h) (Or.inr ⟨by rfl, rfl⟩) ?_ ?_
          rotate_left
          · simp only [Act.put, List.setIfInBounds_toArray, List.set_cons_zero, List.set_cons_succ, i64_w, i32_w]
            rfl
          refine pure_ (i := 11) (N := some 65) (v := undef) (a' := ?_) #[true, true, true, true, true, true, true, true, true, true, true, true, false, false, false, false, false, false, false, false, false, false, false, false, false, false, false, false] rfl rfl (by kernel_rfl) (fun _ _ _ h => h) (Or.inr ⟨by rfl, rfl⟩) ?_ ?_
          rotate_left
          · simp only [Act.put, List.setIfInBounds_toArray, List.set_cons_zero, List.set_cons_succ, i64_w, i32_w]
            rfl
          refine pure_ (i := 12) (N := some 66) (v := undef) (a' := ?_) #[true, true, true, true, true, true, true, true, true, true, true, true, true, false, false, false, false, false, false, false, false, false, false, false, false, false, false, false] rfl rfl (by kernel_rfl) (fun _ _ _ h => h) (Or.inr ⟨by rfl, rfl⟩) ?_ ?_
          rotate_left
          · simp only [Act.put, List.setIfInBounds_toArray, List.set_cons_zero, List.set_cons_succ, i64_w, i32_w]
            rfl
          refine pure_ (i := 13) (N := some 67) (v := undef) (a' := ?_) #[true, true, true, true, true, true, true, true, true, true, true, true, true, true, false, false, false, false, false, false, false, false, false, false, false, false, false, false] rfl rfl (by kernel_rfl) (fun _ _ _ h => h) (Or.inr ⟨by rfl, rfl⟩) ?_ ?_
          rotate_left
          · simp only [Act.put, List.setIfInBounds_toArray, List.set_cons_zero, List.set_cons_succ, i64_w, i32_w]
            rfl
          refine pure_ (i := 14) (N := some 68) (v := undef) (a' := ?_) #[true, true, true, true, true, true, true, true, true, true, true, true, true, true, true, false, false, false, false, false, false, false, false, false, false, false, false, false] rfl rfl (by kernel_rfl) (fun _ _ _ h => h) (Or.inr ⟨by rfl, rfl⟩) ?_ ?_
          rotate_left
          · simp only [Act.put, List.setIfInBounds_toArray, List.set_cons_zero, List.set_cons_succ, i64_w, i32_w]
            rfl
          refine pure_ (i := 15) (N := some 69) (v := undef) (a' := ?_) #[true, true, true, true, true, true, true, true, true, true, true, true, true, true, true, true, false, false, false, false, false, false, false, false, false, false, false, false] rfl rfl (by kernel_rfl) (fun _ _ _ h => h) (Or.inr ⟨by rfl, rfl⟩) ?_ ?_
          rotate_left
          · simp only [Act.put, List.setIfInBounds_toArray, List.set_cons_zero, List.set_cons_succ, i64_w, i32_w]
            rfl
          refine pure_ (i := 16) (N := some 70) (v := undef) (a' := ?_) #[true, true, true, true, true, true, true, true, true, true, true, true, true, true, true, true, true, false, false, false, false, false, false, false, false, false, false, false] rfl rfl (by kernel_rfl) (fun _ _ _ h => h) (Or.inr ⟨by rfl, rfl⟩) ?_ ?_
          rotate_left
          · simp only [Act.put, List.setIfInBounds_toArray, List.set_cons_zero, List.set_cons_succ, i64_w, i32_w]
            rfl
          refine pure_ (i := 17) (N := some 71) (v := undef) (a' := ?_) #[true, true, true, true, true, true, true, true, true, true, true, true, true, true, true, true, true, true, false, false, false, false, false, false, false, false, false, false] rfl rfl (by kernel_rfl) (fun _ _ _ h => h) (Or.inr ⟨by rfl, rfl⟩) ?_ ?_
          rotate_left
          · simp only [Act.put, List.setIfInBounds_toArray, List.set_cons_zero, List.set_cons_succ, i64_w, i32_w]
            rfl
          refine pure_ (i := 18) (N := some 72) (v := ?_) (a' := ?_) #[true, true, true, true, true, true, true, true, true, true, true, true, true, true, true, true, true, true, true, false, false, false, false, false, false, false, false, false] rfl rfl (by kernel_rfl) (fun _ _ _ h => h) (Or.inl ⟨by rfl, ?_⟩) ?_ ?_
          rotate_left
          · intro w'
            go_simp
            with_reducible rfl
          rotate_left
          · simp only [Act.put, List.setIfInBounds_toArray, List.set_cons_zero, List.set_cons_succ, i64_w, i32_w]
            rfl
          refine pure_ (i := 19) (N := some 73) (v := ?_) (a' := ?_) #[true, true, true, true, true, true, true, true, true, true, true, true, true, true, true, true, true, true, true, true, false, false, false, false, false, false, false, false] rfl rfl (by kernel_rfl) (fun _ _ _ h => h) (Or.inl ⟨by rfl, ?_⟩) ?_ ?_
          rotate_left
          · intro w'
            go_simp
            with_reducible rfl
          rotate_left
          · simp only [Act.put, List.setIfInBounds_toArray, List.set_cons_zero, List.set_cons_succ, i64_w, i32_w]
            rfl
          refine pure_ (i := 20) (N := some 74) (v := ?_) (a' := ?_) #[true, true, true, true, true, true, true, true, true, true, true, true, true, true, true, true, true, true, true, true, true, false, false, false, false, false, false, false] rfl rfl (by kernel_rfl) (fun _ _ _ h => h) (Or.inl ⟨by rfl, ?_⟩) ?_ ?_
          rotate_left
          · intro w'
            go_simp
            with_reducible rfl
          rotate_left
          · simp only [Act.put, List.setIfInBounds_toArray, List.set_cons_zero, List.set_cons_succ, i64_w, i32_w]
            rfl
          refine pure_ (i := 21) (N := some 75) (v := ?_) (a' := ?_) #[true, true, true, true, true, true, true, true, true, true, true, true, true, true, true, true, true, true, true, true, true, true, false, false, false, false, false, false] rfl rfl (by kernel_rfl) (fun _ _ _ h => h) (Or.inl ⟨by rfl, ?_⟩) ?_ ?_
          rotate_left
          · intro w'
            go_simp
            with_reducible rfl
          rotate_left
          · simp only [Act.put, List.setIfInBounds_toArray, List.set_cons_zero, List.set_cons_succ, i64_w, i32_w]
            rfl
          refine pure_ (i := 22) (N := some 76) (v := ?_) (a' := ?_) #[true, true, true, true, true, true, true, true, true, true, true, true, true, true, true, true, true, true, true, true, true, true, true, false, false, false, false, false] rfl rfl (by kernel_rfl) (fun _ _ _ h => h) (Or.inl ⟨by rfl, ?_⟩) ?_ ?_
          rotate_left
          · intro w'
            go_simp
            with_reducible rfl
          rotate_left
          · simp only [Act.put, List.setIfInBounds_toArray, List.set_cons_zero, List.set_cons_succ, i64_w, i32_w]
            rfl
          refine pure_ (i := 23) (N := some 77) (v := ?_) (a' := ?_) #[true, true, true, true, true, true, true, true, true, true, true, true, true, true, true, true, true, true, true, true, true, true, true, true, false, false, false, false] rfl rfl (by kernel_rfl) (fun _ _ _ h => h) (Or.inl ⟨by rfl, ?_⟩) ?_ ?_
          rotate_left
          · intro w'
            go_simp
            with_reducible rfl
          rotate_left
          · simp only [Act.put, List.setIfInBounds_toArray, List.set_cons_zero, List.set_cons_succ, i64_w, i32_w]
            rfl
          refine pure_ (i := 24) (N := some 78) (v := ?_) (a' := ?_) #[true, true, true, true, true, true, true, true, true, true, true, true, true, true, true, true, true, true, true, true, true, true, true, true, true, false, false, false] rfl rfl (by kernel_rfl) (fun _ _ _ h => h) (Or.inl ⟨by rfl, ?_⟩) ?_ ?_
          rotate_left
          · intro w'
            go_simp
            with_reducible rfl
          rotate_left
          · simp only [Act.put, List.setIfInBounds_toArray, List.set_cons_zero, List.set_cons_succ, i64_w, i32_w]
            rfl
          refine pure_ (i := 25) (N := some 79) (v := ?_) (a' := ?_) #[true, true, true, true, true, true, true, true, true, true, true, true, true, true, true, true, true, true, true, true, true, true, true, true, true, true, false, false] rfl rfl (by kernel_rfl) (fun _ _ _ h => h) (Or.inl ⟨by rfl, ?_⟩) ?_ ?_
          rotate_left
          · intro w'
            go_simp
            with_reducible rfl
          rotate_left
          · simp only [Act.put, List.setIfInBounds_toArray, List.set_cons_zero, List.set_cons_succ, i64_w, i32_w]
            rfl
          refine pure_ (i := 26) (N := some 80) (v := ?_) (a' := ?_) #[true, true, true, true, true, true, true, true, true, true, true, true, true, true, true, true, true, true, true, true, true, true, true, true, true, true, true, false] rfl rfl (by kernel_rfl) (fun _ _ _ h => h) (Or.inl ⟨by rfl, ?_⟩) ?_ ?_
          rotate_left
          · intro w'
            go_simp
            with_reducible rfl
          rotate_left
          · simp only [Act.put, List.setIfInBounds_toArray, List.set_cons_zero, List.set_cons_succ, i64_w, i32_w]
            rfl
          refine pure_ (i := 27) (N := some 81) (v := ?_) (a' := ?_) #[true, true, true, true, true, true, true, true, true, true, true, true, true, true, true, true, true, true, true, true, true, true, true, true, true, true, true, true] rfl rfl (by kernel_rfl) (fun _ _ _ h => h) (Or.inl ⟨by rfl, ?_⟩) ?_ ?_
          rotate_left
          · intro w'
            go_simp
            with_reducible rfl
          rotate_left
          · simp only [Act.put, List.setIfInBounds_toArray, List.set_cons_zero, List.set_cons_succ, i64_w, i32_w]
            rfl
          refine done_ (by kernel_rfl) ?_
          have HBE := Aside0.mk hHeld
          clear hHeld hS
          go_wp2
          clear q4
          go_roundg (gk - 1)
          case measure => have := HJ.out; have := HLT.out; omega
          case rel => exact ⟨j + 1, jv + 1, by first | rfl | rw [w1_], ⟨by have := HJV.out; omega⟩, ⟨by have := HLT.out; omega, by have := HJ.out; omega⟩, ⟨HBW6.out.trans (HBE.out.2.mono HBW6.out.size)⟩⟩
        · obtain ⟨i, hi⟩ : ∃ i, j = i + 1 := ⟨j - 1, by omega⟩
          obtain ⟨k', hk'⟩ : ∃ k', l[i]? = some k' := ⟨_, List.getElem?_eq_getElem (by have := HLT.out; omega)⟩
          obtain ⟨g6, hA6, -, hrg6⟩ := link_at HR6.out rfl hk'
          obtain rfl : g5 = g6 := by simpa using hA6
          have x0 : w6.cell? ⟨g5, i * 3, none⟩ = some (.string k'.1) := hrg6 0 _ rfl
          have hbef : bytesBefore k'.1.data.toList k.1.data.toList = true := names_at HN.out hk' HKE.out (by omega)
          have t1 : decide (0 < jv) = true := decide_eq_true (by have := HJV.out; omega)
          have v1 : (jv - 1).toNat = i := by have := HJV.out; omega
          have v2 : (0 : Int) ≤ jv - 1 := by have := HJV.out; omega
          have v3 : (1 : Int) ≤ jv := by omega
          have v4 : jv ≤ (l.length : Int) := by have := HJV.out; have := HLT.out; omega
          have v5 : (jv - 1 < (l.length : Int)) = True := eq_true (by omega)
          have v6 : ((0 : Int) ≤ jv - 1) = True := eq_true v2
          have v7 : ((1 : Int) ≤ jv) = True := eq_true v3
          have v8 : (jv ≤ (l.length : Int)) = True := eq_true v4
          have hge : Op.bytesLess k'.1.toList k.1.toList = true := by rw [less_before, ByteArray.toList_eq, ByteArray.toList_eq, hbef]
          have hS : w6.drew.cell? ⟨xb, 0, none⟩ = some (.string k.1) ∧ w6.drew.cell? ⟨wb, 2, none⟩ = some (.slice (some ⟨g5, 0, none⟩) l.length c) ∧ w6.drew.cell? ⟨g5, i * 3, none⟩ = some (.string k'.1) ∧ Below w6.heap.size w6 w6.drew := ⟨y0, p2, x0, below_drew (Below.refl _ _)⟩
          clear hrg6 hA6 hk'
          refine start_ (n := 28) (S := fun W' => W'.cell? ⟨xb, 0, none⟩ = some (.string k.1) ∧ W'.cell? ⟨wb, 2, none⟩ = some (.slice (some ⟨g5, 0, none⟩) l.length c) ∧ W'.cell? ⟨g5, i * 3, none⟩ = some (.string k'.1) ∧ Below w6.heap.size w6 W') (ds := []) #[false, false, false, false, false, false, false, false, false, false, false, false, false, false, false, false, false, false, false, false, false, false, false, false, false, false, false, false] (by kernel_rfl) rfl rfl hS (fun hHeld => ?_)
          refine pure_ (i := 0) (N := some 54) (v := ?_) (a' := ?_) #[true, false, false, false, false, false, false, false, false, false, false, false, false, false, false, false, false, false, false, false, false, false, false, false, false, false, false, false] rfl rfl (by kernel_rfl) (fun _ _ _ h => h) (Or.inl ⟨by rfl, ?_⟩) ?_ ?_
          rotate_left
          · intro w'
            go_simp
            with_reducible rfl
          rotate_left
          · simp only [Act.put, List.setIfInBounds_toArray, List.set_cons_zero, List.set_cons_succ, i64_w, i32_w]
            rfl
          refine take_ (i := 1) (N := some 55) (v := ?_) (a' := ?_) #[true, true, false, false, false, false, false, false, false, false, false, false, false, false, false, false, false, false, false, false, false, false, false, false, false, false, false, false] rfl rfl (by kernel_rfl) (fun _ _ _ h => h) (Or.inl ⟨by rfl, ?_⟩) hHeld ?_ ?_
          rotate_left
          · rintro w' ⟨s1_, s2_, s3_, s4_⟩
            go_simp
            with_reducible rfl
          rotate_left
          · simp only [Act.put, List.setIfInBounds_toArray, List.set_cons_zero, List.set_cons_succ, i64_w, i32_w]
            rfl
          refine one_ (i := 2) (N := some 56) #[true, true, true, false, false, false, false, false, false, false, false, false, false, false, false, false, false, false, false, false, false, false, false, false, false, false, false, false] rfl rfl (by kernel_rfl) (by decide) (fun K hK => ?_)
          skip
          refine goes_ Tryz.func81 (by kernel_rfl) rfl #[.string k.1] (by rfl) rfl rfl (by (simp only [List.map_toArray, List.map_cons, List.map_nil]); rfl) ?_
          refine (name_calls k.1 _).mono ?_
          rintro e_ w7 ⟨rfl, hb7⟩
          rw [HNAME.out]
          refine ⟨_, rfl, ?_⟩
          refine hK.out _ _ ⟨(hb7.cell (World.block_lt_of_cell? _ _ hHeld.1)).trans hHeld.1, (hb7.cell (World.block_lt_of_cell? _ _ hHeld.2.1)).trans hHeld.2.1, (hb7.cell (World.block_lt_of_cell? _ _ hHeld.2.2.1)).trans hHeld.2.2.1, hHeld.2.2.2.trans (hb7.mono hHeld.2.2.2.size)⟩ (fun hHeld => ?_)
          clear hK K
          refine norm_ (a' := ?_) ?_ ?_
          rotate_left
          · show Act.put _ (some 56) _ = _
            simp only [Act.put, List.setIfInBounds_toArray, List.set_cons_zero, List.set_cons_succ, i64_w, i32_w]
            rfl
          clear hb7
          refine pure_ (i := 3) (N := some 57) (v := ?_) (a' := ?_) #[true, true, true, true, false, false, false, false, false, false, false, false, false, false, false, false, false, false, false, false, false, false, false, false, false, false, false, false] rfl rfl (by kernel_rfl) (fun _ _ _ h => h) (Or.inl ⟨by rfl, ?_⟩) ?_ ?_
          rotate_left
          · intro w'
            go_simp
            with_reducible rfl
          rotate_left
          · simp only [Act.put, List.setIfInBounds_toArray, List.set_cons_zero, List.set_cons_succ, i64_w, i32_w]
            rfl
          refine pure_ (i := 4) (N := some 58) (v := ?_) (a' := ?_) #[true, true, true, true, true, false, false, false, false, false, false, false, false, false, false, false, false, false, false, false, false, false, false, false, false, false, false, false] rfl rfl (by kernel_rfl) (fun _ _ _ h => h) (Or.inl ⟨by rfl, ?_⟩) ?_ ?_
          rotate_left
          · intro w'
            go_simp
            with_reducible rfl
          rotate_left
          · simp only [Act.put, List.setIfInBounds_toArray, List.set_cons_zero, List.set_cons_succ, i64_w, i32_w]
            rfl
          refine pure_ (i := 5) (N := some 59) (v := ?_) (a' := ?_) #[true, true, true, true, true, true, false, false, false, false, false, false, false, false, false, false, false, false, false, false, false, false, false, false, false, false, false, false] rfl rfl (by kernel_rfl) (fun _ _ _ h => h) (Or.inl ⟨by rfl, ?_⟩) ?_ ?_
          rotate_left
          · intro w'
            go_simp
            with_reducible rfl
          rotate_left
          · simp only [Act.put, List.setIfInBounds_toArray, List.set_cons_zero, List.set_cons_succ, i64_w, i32_w]
            rfl
          refine pure_ (i := 6) (N := some 60) (v := ?_) (a' := ?_) #[true, true, true, true, true, true, true, false, false, false, false, false, false, false, false, false, false, false, false, false, false, false, false, false, false, false, false, false] rfl rfl (by kernel_rfl) (fun _ _ _ h => h) (Or.inl ⟨by rfl, ?_⟩) ?_ ?_
          rotate_left
          · intro w'
            go_simp
            with_reducible rfl
          rotate_left
          · simp only [Act.put, List.setIfInBounds_toArray, List.set_cons_zero, List.set_cons_succ, i64_w, i32_w]
            rfl
          refine pure_ (i := 7) (N := some 61) (v := ?_) (a' := ?_) #[true, true, true, true, true, true, true, true, false, false, false, false, false, false, false, false, false, false, false, false, false, false, false, false, false, false, false, false] rfl rfl (by kernel_rfl) (fun _ _ _ h => h) (Or.inl ⟨by rfl, ?_⟩) ?_ ?_
          rotate_left
          · intro w'
            go_simp
            with_reducible rfl
          rotate_left
          · simp only [Act.put, List.setIfInBounds_toArray, List.set_cons_zero, List.set_cons_succ, i64_w, i32_w]
            rfl
          refine pure_ (i := 8) (N := some 62) (v := ?_) (a' := ?_) #[true, true, true, true, true, true, true, true, true, false, false, false, false, false, false, false, false, false, false, false, false, false, false, false, false, false, false, false] rfl rfl (by kernel_rfl) (fun _ _ _ h => h) (Or.inl ⟨by rfl, ?_⟩) ?_ ?_
          rotate_left
          · intro w'
            go_simp
            with_reducible rfl
          rotate_left
          · simp only [Act.put, List.setIfInBounds_toArray, List.set_cons_zero, List.set_cons_succ, i64_w, i32_w]
            rfl
          refine take_ (i := 9) (N := some 63) (v := ?_) (a' := ?_) #[true, true, true, true, true, true, true, true, true, true, false, false, false, false, false, false, false, false, false, false, false, false, false, false, false, false, false, false] rfl rfl (by kernel_rfl) (fun _ _ _ h => h) (Or.inl ⟨by rfl, ?_⟩) hHeld ?_ ?_
          rotate_left
          · rintro w' ⟨s1_, s2_, s3_, s4_⟩
            go_simp
            with_reducible rfl
          rotate_left
          · simp only [Act.put, List.setIfInBounds_toArray, List.set_cons_zero, List.set_cons_succ, i64_w, i32_w]
            rfl
          refine pure_ (i := 10) (N := some 64) (v := ?_) (a' := ?_) #[true, true, true, true, true, true, true, true, true, true, true, false, false, false, false, false, false, false, false, false, false, false, false, false, false, false, false, false] rfl rfl (by kernel_rfl) (fun _ _ _ h => h) (Or.inl ⟨by rfl, ?_⟩) ?_ ?_
          rotate_left
          · intro w'
            go_simp
            with_reducible rfl
          rotate_left
          · simp only [Act.put, List.setIfInBounds_toArray, List.set_cons_zero, List.set_cons_succ, i64_w, i32_w]
            rfl
          refine pure_ (i := 11) (N := some 65) (v := ?_) (a' := ?_) #[true, true, true, true, true, true, true, true, true, true, true, true, false, false, false, false, false, false, false, false, false, false, false, false, false, false, false, false] rfl rfl (by kernel_rfl) (fun _ _ _ h => h) (Or.inl ⟨by rfl, ?_⟩) ?_ ?_
          rotate_left
          · intro w'
            go_simp
            with_reducible rfl
          rotate_left
          · simp only [Act.put, List.setIfInBounds_toArray, List.set_cons_zero, List.set_cons_succ, i64_w, i32_w]
            rfl
          refine pure_ (i := 12) (N := some 66) (v := ?_) (a' := ?_) #[true, true, true, true, true, true, true, true, true, true, true, true, true, false, false, false, false, false, false, false, false, false, false, false, false, false, false, false] rfl rfl (by kernel_rfl) (fun _ _ _ h => h) (Or.inl ⟨by rfl, ?_⟩) ?_ ?_
          rotate_left
          · intro w'
            go_simp
            with_reducible rfl
          rotate_left
          · simp only [Act.put, List.setIfInBounds_toArray, List.set_cons_zero, List.set_cons_succ, i64_w, i32_w]
            rfl
          refine pure_ (i := 13) (N := some 67) (v := ?_) (a' := ?_) #[true, true, true, true, true, true, true, true, true, true, true, true, true, true, false, false, false, false, false, false, false, false, false, false, false, false, false, false] rfl rfl (by kernel_rfl) (fun _ _ _ h => h) (Or.inl ⟨by rfl, ?_⟩) ?_ ?_
          rotate_left
          · intro w'
            go_simp
            with_reducible rfl
          rotate_left
          · simp only [Act.put, List.setIfInBounds_toArray, List.set_cons_zero, List.set_cons_succ, i64_w, i32_w]
            rfl
          refine take_ (i := 14) (N := some 68) (v := ?_) (a' := ?_) #[true, true, true, true, true, true, true, true, true, true, true, true, true, true, true, false, false, false, false, false, false, false, false, false, false, false, false, false] rfl rfl (by kernel_rfl) (fun _ _ _ h => h) (Or.inl ⟨by rfl, ?_⟩) hHeld ?_ ?_
          rotate_left
          · rintro w' ⟨s1_, s2_, s3_, s4_⟩
            go_simp
            with_reducible rfl
          rotate_left
          · simp only [Act.put, List.setIfInBounds_toArray, List.set_cons_zero, List.set_cons_succ, i64_w, i32_w]
            rfl
          refine pure_ (i := 15) (N := some 69) (v := ?_) (a' := ?_) #[true, true, true, true, true, true, true, true, true, true, true, true, true, true, true, true, false, false, false, false, false, false, false, false, false, false, false, false] rfl rfl (by kernel_rfl) (fun _ _ _ h => h) (Or.inl ⟨by rfl, ?_⟩) ?_ ?_
          rotate_left
          · intro w'
            go_simp
            with_reducible rfl
          rotate_left
          · simp only [Act.put, List.setIfInBounds_toArray, List.set_cons_zero, List.set_cons_succ, i64_w, i32_w]
            rfl
          refine take_ (i := 16) (N := some 70) (v := ?_) (a' := ?_) #[true, true, true, true, true, true, true, true, true, true, true, true, true, true, true, true, true, false, false, false, false, false, false, false, false, false, false, false] rfl rfl (by kernel_rfl) (fun _ _ _ h => h) (Or.inl ⟨by rfl, ?_⟩) hHeld ?_ ?_
          rotate_left
          · rintro w' ⟨s1_, s2_, s3_, s4_⟩
            go_simp
            with_reducible rfl
          rotate_left
          · simp only [Act.put, List.setIfInBounds_toArray, List.set_cons_zero, List.set_cons_succ, i64_w, i32_w]
            rfl
          refine pure_ (i := 17) (N := some 71) (v := ?_) (a' := ?_) #[true, true, true, true, true, true, true, true, true, true, true, true, true, true, true, true, true, true, false, false, false, false, false, false, false, false, false, false] rfl rfl (by kernel_rfl) (fun _ _ _ h => h) (Or.inl ⟨by rfl, ?_⟩) ?_ ?_
          rotate_left
          · intro w'
            go_simp
            with_reducible rfl
          rotate_left
          · simp only [Act.put, List.setIfInBounds_toArray, List.set_cons_zero, List.set_cons_succ, i64_w, i32_w]
            rfl
          refine pure_ (i := 18) (N := some 72) (v := ?_) (a' := ?_) #[true, true, true, true, true, true, true, true, true, true, true, true, true, true, true, true, true, true, true, false, false, false, false, false, false, false, false, false] rfl rfl (by kernel_rfl) (fun _ _ _ h => h) (Or.inl ⟨by rfl, ?_⟩) ?_ ?_
          rotate_left
          · intro w'
            go_simp
            with_reducible rfl
          rotate_left
          · simp only [Act.put, List.setIfInBounds_toArray, List.set_cons_zero, List.set_cons_succ, i64_w, i32_w]
            rfl
          refine pure_ (i := 19) (N := some 73) (v := ?_) (a' := ?_) #[true, true, true, true, true, true, true, true, true, true, true, true, true, true, true, true, true, true, true, true, false, false, false, false, false, false, false, false] rfl rfl (by kernel_rfl) (fun _ _ _ h => h) (Or.inl ⟨by rfl, ?_⟩) ?_ ?_
          rotate_left
          · intro w'
            go_simp
            with_reducible rfl
          rotate_left
          · simp only [Act.put, List.setIfInBounds_toArray, List.set_cons_zero, List.set_cons_succ, i64_w, i32_w]
            rfl
          refine pure_ (i := 20) (N := some 74) (v := ?_) (a' := ?_) #[true, true, true, true, true, true, true, true, true, true, true, true, true, true, true, true, true, true, true, true, true, false, false, false, false, false, false, false] rfl rfl (by kernel_rfl) (fun _ _ _ h => h) (Or.inl ⟨by rfl, ?_⟩) ?_ ?_
          rotate_left
          · intro w'
            go_simp
            with_reducible rfl
          rotate_left
          · simp only [Act.put, List.setIfInBounds_toArray, List.set_cons_zero, List.set_cons_succ, i64_w, i32_w]
            rfl
          refine pure_ (i := 21) (N := some 75) (v := ?_) (a' := ?_) #[true, true, true, true, true, true, true, true, true, true, true, true, true, true, true, true, true, true, true, true, true, true, false, false, false, false, false, false] rfl rfl (by kernel_rfl) (fun _ _ _ h => h) (Or.inl ⟨by rfl, ?_⟩) ?_ ?_
          rotate_left
          · intro w'
            go_simp
            with_reducible rfl
          rotate_left
          · simp only [Act.put, List.setIfInBounds_toArray, List.set_cons_zero, List.set_cons_succ, i64_w, i32_w]
            rfl
          refine pure_ (i := 22) (N := some 76) (v := ?_) (a' := ?_) #[true, true, true, true, true, true, true, true, true, true, true, true, true, true, true, true, true, true, true, true, true, true, true, false, false, false, false, false] rfl rfl (by kernel_rfl) (fun _ _ _ h => h) (Or.inl ⟨by rfl, ?_⟩) ?_ ?_
          rotate_left
          · intro w'
            go_simp
            with_reducible rfl
          rotate_left
          · simp only [Act.put, List.setIfInBounds_toArray, List.set_cons_zero, List.set_cons_succ, i64_w, i32_w]
            rfl
          refine pure_ (i := 23) (N := some 77) (v := ?_) (a' := ?_) #[true, true, true, true, true, true, true, true, true, true, true, true, true, true, true, true, true, true, true, true, true, true, true, true, false, false, false, false] rfl rfl (by kernel_rfl) (fun _ _ _ h => h) (Or.inl ⟨by rfl, ?_⟩) ?_ ?_
          rotate_left
          · intro w'
            go_simp
            with_reducible rfl
          rotate_left
          · simp only [Act.put, List.setIfInBounds_toArray, List.set_cons_zero, List.set_cons_succ, i64_w, i32_w]
            rfl
          refine pure_ (i := 24) (N := some 78) (v := ?_) (a' := ?_) #[true, true, true, true, true, true, true, true, true, true, true, true, true, true, true, true, true, true, true, true, true, true, true, true, true, false, false, false] rfl rfl (by kernel_rfl) (fun _ _ _ h => h) (Or.inl ⟨by rfl, ?_⟩) ?_ ?_
          rotate_left
          · intro w'
            go_simp
            with_reducible rfl
          rotate_left
          · simp only [Act.put, List.setIfInBounds_toArray, List.set_cons_zero, List.set_cons_succ, i64_w, i32_w]
            rfl
          refine pure_ (i := 25) (N := some 79) (v := ?_) (a' := ?_) #[true, true, true, true, true, true, true, true, true, true, true, true, true, true, true, true, true, true, true, true, true, true, true, true, true, true, false, false] rfl rfl (by kernel_rfl) (fun _ _ _ h => h) (Or.inl ⟨by rfl, ?_⟩) ?_ ?_
          rotate_left
          · intro w'
            go_simp
            with_reducible rfl
          rotate_left
          · simp only [Act.put, List.setIfInBounds_toArray, List.set_cons_zero, List.set_cons_succ, i64_w, i32_w]
            rfl
          refine pure_ (i := 26) (N := some 80) (v := ?_) (a' := ?_) #[true, true, true, true, true, true, true, true, true, true, true, true, true, true, true, true, true, true, true, true, true, true, true, true, true, true, true, false] rfl rfl (by kernel_rfl) (fun _ _ _ h => h) (Or.inl ⟨by rfl, ?_⟩) ?_ ?_
          rotate_left
          · intro w'
            go_simp
            with_reducible rfl
          rotate_left
          · simp only [Act.put, List.setIfInBounds_toArray, List.set_cons_zero, List.set_cons_succ, i64_w, i32_w]
            rfl
          refine pure_ (i := 27) (N := some 81) (v := ?_) (a' := ?_) #[true, true, true, true, true, true, true, true, true, true, true, true, true, true, true, true, true, true, true, true, true, true, true, true, true, true, true, true] rfl rfl (by kernel_rfl) (fun _ _ _ h => h) (Or.inl ⟨by rfl, ?_⟩) ?_ ?_
          rotate_left
          · intro w'
            go_simp
            with_reducible rfl
          rotate_left
          · simp only [Act.put, List.setIfInBounds_toArray, List.set_cons_zero, List.set_cons_succ, i64_w, i32_w]
            rfl
          refine done_ (by kernel_rfl) ?_
          have HBE := Aside0.mk hHeld
          clear hHeld hS
          go_wp2
          clear q4
          go_roundg (gk - 1)
          case measure => have := HJ.out; have := HLT.out; omega
          case rel => exact ⟨j + 1, jv + 1, by first | rfl | rw [w1_], ⟨by have := HJV.out; omega⟩, ⟨by have := HLT.out; omega, by have := HJ.out; omega⟩, ⟨HBW6.out.trans (HBE.out.2.2.2.mono HBW6.out.size)⟩⟩
    · have q1 : decide (jv < (l.length : Int)) = false := decide_eq_false (by have := HJV.out; omega)
      have q2 : (jv < (l.length : Int)) = False := eq_false (by have := HJV.out; omega)
      go_wp2
      go_ret
      exact ⟨rfl, HB2.out.trans (HBW.out.mono HB2.out.size)⟩
end
end Go.Proofs.YthifdofdoeaemaaGreatDoor.Wk
end
section
namespace Go.Proofs.YthifdofdoeaemaaGreatDoor.Wk
open Go.RowKit Go.Proofs.YthifdofdoeaemaaGreatDoorW.PrintWords Go.Proofs.YthifdofdoeaemaaGreatDoorW.PrintLast Go.Proofs.YthifdofdoeaemaaGreatDoorW.PrintMore
attribute [local go_sem] max2_int min2_int max_two min_two max_three min_three max_four min_four
set_option linter.unusedVariables false
set_option linter.unusedSimpArgs false
section
open Go.RowKit Go.Lib Go.Maps
theorem cntL_take (id : Int) (l : List Lk) {j : Nat} (h : j < l.length) : cntL id (l.take (j + 1)) = cntL id (l.take j) + (if (l[j]'h).2.1 = id then 1 else 0) := by
  rw [List.take_succ_eq_append_getElem h]
  unfold cntL
  rw [List.countP_append]
  by_cases e : (l[j]'h).2.1 = id <;> simp [e]
theorem first_root {G : GS} (h : Ok G) : ∃ (h0 : 0 < G.objs.length), (G.objs[0]'h0).1 = 1 := by
  obtain ⟨o, ho, -⟩ := h.root
  cases hl : G.objs with
  | nil => rw [hl] at ho; cases ho
  | cons a t =>
    refine ⟨by simp, ?_⟩
    simp only [List.getElem_cons_zero]
    have ha := (h.ids a (by rw [hl]; simp)).1
    rw [hl] at ho
    have hp := h.asc
    unfold Asc at hp
    rw [hl] at hp
    rcases List.mem_cons.1 ho with e | ho
    · rw [← e]
    · have := (List.pairwise_cons.1 hp).1 _ ho
      simp only at this
      omega
theorem asc_get {l : List (Int × GO)} (h : Asc l) {i j : Nat} (hij : i < j) (hj : j < l.length) : (l[i]'(by omega)).1 < (l[j]'hj).1 := List.pairwise_iff_getElem.1 h i j (by omega) hj hij
end
end Go.Proofs.YthifdofdoeaemaaGreatDoor.Wk
end
section
namespace Go.Proofs.YthifdofdoeaemaaGreatDoor.Wk
open Go.RowKit Go.Proofs.YthifdofdoeaemaaGreatDoorW.PrintWords Go.Proofs.YthifdofdoeaemaaGreatDoorW.PrintLast Go.Proofs.YthifdofdoeaemaaGreatDoorW.PrintMore
attribute [local go_sem] max2_int min2_int max_two min_two max_three min_three max_four min_four
set_option linter.unusedVariables false
set_option linter.unusedSimpArgs false
section
open Go.RowKit Go.Lib Go.Maps
abbrev Shp := Int × Int × List Lk × Int
def shp (x : Int × GO) : Shp := (x.1, x.2.kind, x.2.links, x.2.held)
def shape (l : List (Int × GO)) : List Shp := l.map shp
def sumS (g : List Lk → Nat) (s : List Shp) : Nat := (s.map (fun e => g e.2.2.1)).sum
theorem sum_shape (g : List Lk → Nat) (l : List (Int × GO)) : sumO (fun o => g o.links) l = sumS g (shape l) := by
  unfold sumO sumS shape
  rw [List.map_map]
  rfl
theorem sumS_append (g : List Lk → Nat) (a b : List Shp) : sumS g (a ++ b) = sumS g a + sumS g b := by
  unfold sumS
  rw [List.map_append, List.sum_append]
theorem sumS_cons (g : List Lk → Nat) (e : Shp) (b : List Shp) : sumS g (e :: b) = g e.2.2.1 + sumS g b := rfl
def recS (s : List Shp) (e : Shp) : Int × GO := (e.1, ⟨e.2.1, e.2.2.1, ((sumS (cntL e.1) s : Nat) : Int), e.2.2.2⟩)
theorem objs_of_shape {G : GS} (h : Ok G) : G.objs = (shape G.objs).map (recS (shape G.objs)) := by
  conv => lhs; rw [← List.map_id G.objs]
  show _ = (G.objs.map shp).map _
  rw [List.map_map]
  refine List.map_congr_left (fun x hx => ?_)
  have h1 := h.leads x hx
  have h2 : sumO (cntO x.1) G.objs = sumS (cntL x.1) (shape G.objs) := sum_shape (cntL x.1) G.objs
  rw [h2] at h1
  show x = recS (shape G.objs) (shp x)
  unfold recS shp
  simp only
  rw [← h1]
theorem graph_of_shape {G H : GS} (h : Ok G) (h' : Ok H) (hn : G.next = H.next) (hs : shape G.objs = shape H.objs) : G = H := by
  have h1 := objs_of_shape h
  have h2 := objs_of_shape h'
  rw [hs, ← h2] at h1
  have h3 : G.count = H.count := by rw [h.count, h'.count, h1]
  cases G; cases H
  simp only at hn h1 h3
  rw [hn, h1, h3]
def fullE (x : Int × GO) : Shp := (x.1, x.2.kind, x.2.links, 0)
def bareE (x : Int × GO) : Shp := (x.1, x.2.kind, [], 0)
def emptyO (x : Int × GO) : Int × GO := (x.1, newO x.2.kind)
def upto (l : List (Int × GO)) (i j : Nat) : List Shp := (l.take i).map fullE ++ (match l[i]? with | none => [] | some x => (x.1, x.2.kind, x.2.links.take j, 0) :: (l.drop (i + 1)).map bareE)
theorem upto_some {l : List (Int × GO)} {i : Nat} {x : Int × GO} (h : l[i]? = some x) (j : Nat) : upto l i j = (l.take i).map fullE ++ (x.1, x.2.kind, x.2.links.take j, 0) :: (l.drop (i + 1)).map bareE := by
  unfold upto
  rw [h]
theorem upto_start {l : List (Int × GO)} (h : 0 < l.length) : shape (l.map emptyO) = upto l 0 0 := by
  cases l with
  | nil => cases h
  | cons a t =>
    show shape ((a :: t).map emptyO) = [] ++ (a.1, a.2.kind, a.2.links.take 0, 0) :: t.map bareE
    unfold shape
    rw [List.map_map]
    rfl
theorem split_at {l : List (Int × GO)} {i : Nat} {x : Int × GO} (h : l[i]? = some x) : l = l.take i ++ x :: l.drop (i + 1) := by
  obtain ⟨h1, e⟩ := List.getElem?_eq_some_iff.1 h
  conv => lhs; rw [← List.take_append_drop i l, List.drop_eq_getElem_cons h1, e]
theorem upto_next {l : List (Int × GO)} {i : Nat} {x : Int × GO} (h : l[i]? = some x) : upto l i x.2.links.length = upto l (i + 1) 0 := by
  obtain ⟨h1, e⟩ := List.getElem?_eq_some_iff.1 h
  rw [upto_some h, List.take_length]
  unfold upto
  rw [List.take_succ_eq_append_getElem h1, e, List.map_append, List.append_assoc]
  congr 1
  show fullE x :: _ = [fullE x] ++ _
  rw [List.singleton_append]
  congr 1
  cases hd : l[i + 1]? with
  | none =>
    have : l.length ≤ i + 1 := List.getElem?_eq_none_iff.1 hd
    rw [List.drop_eq_nil_of_le this]
    rfl
  | some y =>
    obtain ⟨h2, e2⟩ := List.getElem?_eq_some_iff.1 hd
    rw [List.drop_eq_getElem_cons h2, e2]
    rfl
theorem upto_end (l : List (Int × GO)) (j : Nat) : upto l l.length j = l.map fullE := by
  unfold upto
  rw [List.take_length, List.getElem?_eq_none (Nat.le_refl _), List.append_nil]
theorem sum_zeros : ∀ l : List (Int × GO), (l.map (fun _ => 0)).sum = 0
  | [] => rfl
  | a :: t => by rw [List.map_cons, List.sum_cons, sum_zeros t]
theorem upto_sum (g : List Lk → Nat) (h0 : g [] = 0) {l : List (Int × GO)} {i : Nat} {x : Int × GO} (h : l[i]? = some x) (j : Nat) : sumS g (upto l i j) + g x.2.links ≤ sumO (fun o => g o.links) l + g (x.2.links.take j) := by
  have h1 : sumS g ((l.drop (i + 1)).map bareE) = 0 := by
    unfold sumS
    rw [List.map_map]
    have : ((l.drop (i + 1)).map ((fun e : Shp => g e.2.2.1) ∘ bareE)) = (l.drop (i + 1)).map (fun _ => 0) := List.map_congr_left (fun x _ => h0)
    rw [this]
    exact sum_zeros _
  have h2 : sumS g ((l.take i).map fullE) = sumO (fun o => g o.links) (l.take i) := by
    unfold sumS sumO
    rw [List.map_map]
    rfl
  have h3 : sumO (fun o => g o.links) l = sumO (fun o => g o.links) (l.take i) + (g x.2.links + sumO (fun o => g o.links) (l.drop (i + 1))) := by
    conv => lhs; rw [split_at h]
    unfold sumO
    rw [List.map_append, List.sum_append]
    rfl
  rw [upto_some h, sumS_append, sumS_cons, h1, h2, h3]
  simp only
  omega
theorem upto_ids (l : List (Int × GO)) (i j : Nat) : (upto l i j).map (·.1) = l.map (·.1) := by
  cases h : l[i]? with
  | none =>
    unfold upto
    rw [h, List.append_nil, List.map_map, List.take_of_length_le (List.getElem?_eq_none_iff.1 h)]
    rfl
  | some x =>
    rw [upto_some h]
    conv => rhs; rw [split_at h]
    rw [List.map_append, List.map_append, List.map_map, List.map_cons, List.map_cons, List.map_map]
    rfl
theorem upto_has {l m : List (Int × GO)} {i j : Nat} (h : shape m = upto l i j) (id : Int) : has m id ↔ has l id := by
  have h1 : m.map (·.1) = l.map (·.1) := by
    rw [← upto_ids l i j, ← h]
    unfold shape
    rw [List.map_map]
    rfl
  unfold has
  constructor
  · rintro ⟨o, ho⟩
    have := List.mem_map_of_mem (f := fun y : Int × GO => y.1) ho
    rw [h1] at this
    obtain ⟨y, hy, e⟩ := List.mem_map.1 this
    exact ⟨y.2, by simp only at e; rw [← e]; exact hy⟩
  · rintro ⟨o, ho⟩
    have := List.mem_map_of_mem (f := fun y : Int × GO => y.1) ho
    rw [← h1] at this
    obtain ⟨y, hy, e⟩ := List.mem_map.1 this
    exact ⟨y.2, by simp only at e; rw [← e]; exact hy⟩
theorem upto_kind {l m : List (Int × GO)} {i j : Nat} (h : shape m = upto l i j) (ha : Asc l) {id : Int} {o p : GO} (ho : (id, o) ∈ m) (hp : (id, p) ∈ l) : o.kind = p.kind := by
  have h1 : m.map (fun y => (y.1, y.2.kind)) = l.map (fun y => (y.1, y.2.kind)) := by
    have e1 : m.map (fun y => (y.1, y.2.kind)) = (shape m).map (fun e => (e.1, e.2.1)) := by unfold shape; rw [List.map_map]; rfl
    rw [e1, h]
    cases hx : l[i]? with
    | none =>
      unfold upto
      rw [hx, List.append_nil, List.map_map, List.take_of_length_le (List.getElem?_eq_none_iff.1 hx)]
      rfl
    | some x =>
      rw [upto_some hx]
      conv => rhs; rw [split_at hx]
      rw [List.map_append, List.map_append, List.map_map, List.map_cons, List.map_cons, List.map_map]
      rfl
  have := List.mem_map_of_mem (f := fun y : Int × GO => (y.1, y.2.kind)) ho
  rw [h1] at this
  obtain ⟨y, hy, e⟩ := List.mem_map.1 this
  simp only [Prod.mk.injEq] at e
  have hyp : (id, y.2) ∈ l := by rw [← e.1]; exact hy
  rw [asc_uniq ha hp hyp]
  exact e.2.symm
theorem insB_end {k : Lk} : ∀ {l : List Lk}, (∀ y ∈ l, bytesBefore y.1.data.toList k.1.data.toList = true) → insB k l = l ++ [k]
  | [], _ => rfl
  | a :: t, h => by
    have h1 := h a (by simp)
    have h2 : ¬ bytesBefore k.1.data.toList a.1.data.toList = true := fun h3 => by
      have := before_trans h1 h3
      rw [before_irrefl] at this
      cases this
    unfold insB
    rw [if_neg h2, insB_end (fun y hy => h y (by simp [hy]))]
    rfl
theorem before_ne {a b : ByteArray} (h : bytesBefore a.data.toList b.data.toList = true) : a ≠ b := fun e => by rw [e, before_irrefl] at h; cases h
theorem putK_end {k : Lk} {l : List Lk} (h : ∀ y ∈ l, bytesBefore y.1.data.toList k.1.data.toList = true) : putK k l = l ++ [k] := by
  unfold putK
  rw [delK_not (fun y hy => before_ne (h y hy)), insB_end h]
def putE (id : Int) (k : Lk) (e : Shp) : Shp := if e.1 = id then (e.1, e.2.1, putK k e.2.2.1, e.2.2.2) else e
theorem shape_put2 (G : GS) (id : Int) (k : Lk) : shape (put2 G id k).objs = (shape G.objs).map (putE id k) := by
  rw [put2_objs]
  unfold shape setO
  rw [List.map_map, List.map_map, List.map_map]
  refine List.map_congr_left (fun x _ => ?_)
  simp only [Function.comp]
  unfold putE shp
  by_cases h1 : x.1 = id
  · simp only [if_pos h1]
    by_cases h2 : x.1 = k.2.1
    · simp only [if_pos h2]
    · simp only [if_neg h2]
  · simp only [if_neg h1]
    by_cases h2 : x.1 = k.2.1
    · simp only [if_pos h2]
    · simp only [if_neg h2]
theorem putE_not {id : Int} {k : Lk} {l : List Shp} (h : ∀ e ∈ l, e.1 ≠ id) : l.map (putE id k) = l := by
  conv => rhs; rw [← List.map_id l]
  refine List.map_congr_left (fun e he => ?_)
  unfold putE
  rw [if_neg (h e he)]
  rfl
structure LoadSt (G : GS) (i j : Nat) (H : GS) : Prop where
  ok : Ok H
  next : H.next = G.next
  shape : shape H.objs = upto G.objs i j
theorem load_start {G : GS} (h : Ok G) : LoadSt G 0 0 ⟨G.next, 0, G.objs.map emptyO⟩ := by
  obtain ⟨h0, -⟩ := first_root h
  have hm : ∀ {y}, y ∈ G.objs.map emptyO → ∃ z ∈ G.objs, y = emptyO z := fun hy => by obtain ⟨z, hz, e⟩ := List.mem_map.1 hy; exact ⟨z, hz, e.symm⟩
  have hz : ∀ (f : GO → Nat), (∀ k, f (newO k) = 0) → sumO f (G.objs.map emptyO) = 0 := fun f hf => sumO_zero_of (fun x hx => by obtain ⟨z, -, rfl⟩ := hm hx; exact hf _)
  refine ⟨?_, rfl, upto_start h0⟩
  exact {
    asc := by
      show (G.objs.map emptyO).Pairwise _
      rw [List.pairwise_map]
      exact h.asc.imp (fun hab => hab)
    root := by obtain ⟨o, ho, hk⟩ := h.root; exact ⟨newO o.kind, List.mem_map.2 ⟨_, ho, rfl⟩, hk⟩
    ids := fun y hy => by obtain ⟨z, hz, rfl⟩ := hm hy; exact h.ids z hz
    kind := fun y hy => by obtain ⟨z, hz, rfl⟩ := hm hy; exact (h.kind z hz).imp_right (fun a => ⟨a.1, rfl⟩)
    names := fun y hy => by obtain ⟨z, hz, rfl⟩ := hm hy; exact List.Pairwise.nil
    lk := fun y hy k hk => by obtain ⟨z, hz, rfl⟩ := hm hy; cases hk
    leads := fun y hy => by obtain ⟨z, hz', rfl⟩ := hm hy; show (0 : Int) = _; rw [hz _ (fun k => rfl)]; rfl
    held := fun y hy => by obtain ⟨z, hz, rfl⟩ := hm hy; exact Int.le_refl 0
    count := by show (0 : Int) = _; rw [hz _ (fun k => rfl)]; rfl
    links := by show sumO lenO (G.objs.map emptyO) ≤ 256; rw [hz _ (fun k => rfl)]; omega
    size := by show (G.objs.map emptyO).length ≤ 128; rw [List.length_map]; exact h.size
    ones := fun y hy _ => by obtain ⟨z, hz, rfl⟩ := hm hy; show (0 : Int) ≤ 1; decide }
theorem load_link {G H : GS} (h : Ok G) {i j : Nat} (hs : LoadSt G i j H) {x : Int × GO} (hx : G.objs[i]? = some x) {k : Lk} (hk : x.2.links[j]? = some k) :
    ∃ o H2, H.at x.1 = some o ∧ putG H x.1 k = some H2 ∧ LoadSt G i (j + 1) H2 := by
  have hxm : x ∈ G.objs := List.mem_of_getElem? hx
  have hkm : k ∈ x.2.links := List.mem_of_getElem? hk
  obtain ⟨hj, hje⟩ := List.getElem?_eq_some_iff.1 hk
  have hup := upto_some hx j
  have hme : (x.1, x.2.kind, x.2.links.take j, (0 : Int)) ∈ shape H.objs := by rw [hs.shape, hup]; simp
  obtain ⟨y, hy, hye⟩ := List.mem_map.1 hme
  unfold shp at hye
  simp only [Prod.mk.injEq] at hye
  obtain ⟨e1, e2, e3, -⟩ := hye
  have ho : (x.1, y.2) ∈ H.objs := by rw [← e1]; exact hy
  have hk1 : x.2.kind = 1 := by
    rcases h.kind x hxm with h1 | h1
    · exact h1
    · rw [h1.2] at hkm; cases hkm
  have hbef : ∀ z ∈ x.2.links.take j, bytesBefore z.1.data.toList k.1.data.toList = true := fun z hz => by
    obtain ⟨m, hm⟩ := List.mem_iff_getElem?.1 hz
    have hmj : m < j := by
      have := (List.getElem?_eq_some_iff.1 hm).1
      rw [List.length_take] at this
      omega
    rw [List.getElem?_take_of_lt hmj] at hm
    exact names_at (h.names x hxm) hm hk hmj
  have hlnk : lnk y.2.links k.1 = none := by rw [e3]; exact lnk_none_of (fun z hz => before_ne (hbef z hz))
  have hlk : LkOk H.objs k := by
    have h1 := h.lk x hxm k hkm
    refine ⟨h1.1, h1.2.imp_right (fun ⟨a, b, c⟩ => ⟨a, b, (upto_has hs.shape _).2 c⟩)⟩
  have hcount : H.count < 256 := by
    have h1 := hs.ok.count
    have h2 : sumO lenO H.objs = sumS List.length (upto G.objs i j) := by rw [← hs.shape]; exact sum_shape List.length H.objs
    have h3 := upto_sum List.length rfl hx j
    have h4 : sumO (fun o => o.links.length) G.objs ≤ 256 := h.links
    have h5 : (x.2.links.take j).length = j := by rw [List.length_take]; omega
    omega
  have hlead : ∀ t, (k.2.1, t) ∈ H.objs → t.kind = 1 → t.leads = 0 := fun t ht ht1 => by
    have h1 := hs.ok.leads _ ht
    simp only at h1
    have h2 : sumO (cntO k.2.1) H.objs = sumS (cntL k.2.1) (upto G.objs i j) := by rw [← hs.shape]; exact sum_shape (cntL k.2.1) H.objs
    obtain ⟨T, hT⟩ := (upto_has hs.shape k.2.1).1 ⟨t, ht⟩
    have h3 := upto_sum (cntL k.2.1) rfl hx j
    have h4 := h.leads _ hT
    have h5 := h.ones _ hT (by rw [← upto_kind hs.shape h.asc ht hT]; exact ht1)
    simp only at h4 h5
    have h6 : sumO (cntO k.2.1) G.objs = sumO (fun o => cntL k.2.1 o.links) G.objs := rfl
    have h7 := cntL_take k.2.1 x.2.links hj
    rw [hje, if_pos rfl] at h7
    have h8 : cntL k.2.1 (x.2.links.take (j + 1)) ≤ cntL k.2.1 x.2.links := by
      unfold cntL
      exact (List.take_sublist _ _).countP_le
    omega
  have hput := put_ok hs.ok ho (e2.trans hk1) hlnk hlk hcount hlead
  refine ⟨y.2, put2 H x.1 k, hs.ok.obj ho, put_some hs.ok ho ?_, hput, hs.next, ?_⟩
  · rcases hlk.2 with h1 | ⟨h1, -, h2⟩
    · exact .inl h1.1
    · exact .inr ⟨by omega, h2⟩
  · rw [shape_put2, hs.shape, hup, upto_some hx, List.map_append, List.map_cons]
    have hA : ∀ e ∈ (G.objs.take i).map fullE, e.1 ≠ x.1 := fun e he => by
      obtain ⟨z, hz, rfl⟩ := List.mem_map.1 he
      obtain ⟨m, hm⟩ := List.mem_iff_getElem?.1 hz
      have hmi : m < i := by
        have := (List.getElem?_eq_some_iff.1 hm).1
        rw [List.length_take] at this
        omega
      rw [List.getElem?_take_of_lt hmi] at hm
      obtain ⟨h1, q1⟩ := List.getElem?_eq_some_iff.1 hm
      obtain ⟨h2, q2⟩ := List.getElem?_eq_some_iff.1 hx
      have := asc_get h.asc hmi h2
      rw [q1, q2] at this
      show z.1 ≠ x.1
      omega
    have hB : ∀ e ∈ (G.objs.drop (i + 1)).map bareE, e.1 ≠ x.1 := fun e he => by
      obtain ⟨z, hz, rfl⟩ := List.mem_map.1 he
      obtain ⟨m, hm⟩ := List.mem_iff_getElem?.1 hz
      rw [List.getElem?_drop] at hm
      obtain ⟨h1, q1⟩ := List.getElem?_eq_some_iff.1 hm
      obtain ⟨h2, q2⟩ := List.getElem?_eq_some_iff.1 hx
      have := asc_get h.asc (show i < i + 1 + m by omega) h1
      rw [q1, q2] at this
      show z.1 ≠ x.1
      omega
    rw [putE_not hA, putE_not hB]
    congr 2
    unfold putE
    rw [if_pos rfl]
    simp only
    rw [putK_end hbef, List.take_succ_eq_append_getElem hj, hje]
theorem load_node {G H : GS} {i : Nat} {x : Int × GO} (hx : G.objs[i]? = some x) (hs : LoadSt G i x.2.links.length H) : LoadSt G (i + 1) 0 H := ⟨hs.ok, hs.next, by rw [hs.shape, upto_next hx]⟩
theorem load_end {G H : GS} (h : Ok G) (hf : ∀ x ∈ G.objs, x.2.held = 0) {j : Nat} (hs : LoadSt G G.objs.length j H) : H = G := by
  refine graph_of_shape hs.ok h hs.next ?_
  rw [hs.shape, upto_end]
  refine List.map_congr_left (fun x hx => ?_)
  unfold fullE shp
  rw [hf x hx]
theorem insO_end {x : Int × GO} : ∀ {l : List (Int × GO)}, (∀ y ∈ l, y.1 < x.1) → insO x l = l ++ [x]
  | [], _ => rfl
  | a :: t, h => by
    have h1 := h a (by simp)
    unfold insO
    rw [if_neg (by omega), insO_end (fun y hy => h y (by simp [hy]))]
    rfl
theorem putO_end {x : Int × GO} {l : List (Int × GO)} (h : ∀ y ∈ l, y.1 < x.1) : putO x l = l ++ [x] := by
  unfold putO
  rw [delO_not (fun y hy => by have := h y hy; omega), insO_end h]
theorem load_obj {l : List (Int × GO)} (ha : Asc l) {i : Nat} {x : Int × GO} (hx : l[i]? = some x) (n c : Int) : (GS.mk n c ((l.take i).map emptyO)).at x.1 = none ∧ putO (x.1, newO x.2.kind) ((l.take i).map emptyO) = (l.take (i + 1)).map emptyO := by
  obtain ⟨h1, e⟩ := List.getElem?_eq_some_iff.1 hx
  have hlt : ∀ y ∈ (l.take i).map emptyO, y.1 < x.1 := fun y hy => by
    obtain ⟨z, hz, rfl⟩ := List.mem_map.1 hy
    obtain ⟨m, hm⟩ := List.mem_iff_getElem?.1 hz
    have hmi : m < i := by
      have := (List.getElem?_eq_some_iff.1 hm).1
      rw [List.length_take] at this
      omega
    rw [List.getElem?_take_of_lt hmi] at hm
    obtain ⟨h2, q2⟩ := List.getElem?_eq_some_iff.1 hm
    have := asc_get ha hmi h1
    rw [q2, e] at this
    exact this
  refine ⟨?_, ?_⟩
  · cases hq : (GS.mk n c ((l.take i).map emptyO)).at x.1 with
    | none => rfl
    | some o => have := hlt _ (at_mem hq); simp only at this; omega
  · rw [putO_end (x := (x.1, newO x.2.kind)) hlt, List.take_succ_eq_append_getElem h1, e, List.map_append]
    rfl
end
end Go.Proofs.YthifdofdoeaemaaGreatDoor.Wk
end
section
namespace Go.Proofs.YthifdofdoeaemaaGreatDoor.Wk
open Go.RowKit Go.Proofs.YthifdofdoeaemaaGreatDoorW.PrintWords Go.Proofs.YthifdofdoeaemaaGreatDoorW.PrintLast Go.Proofs.YthifdofdoeaemaaGreatDoorW.PrintMore
attribute [local go_sem] max2_int min2_int max_two min_two max_three min_three max_four min_four
set_option linter.unusedVariables false
set_option linter.unusedSimpArgs false
section
open Go.RowKit Go.Lib Go.Maps Go.Proofs.YthifdofdoeaemaaGreatDoorQ
attribute [local go_sem] Oper.semAt_some
theorem obj_lays (B : GB) (G : GS) (id kind : Int) (W4 : World) (hG : GraphAt W4 B G) (hn : G.at id = none) (hwf : (Lit.int .i64 id).wf = true) (hb : G.objs.length < bound) :
    ∃ W6, (Instr.mapUpdate 71 (.map (some B.mb)) (.int .i64 id) (.pointer (some ⟨W4.heap.size + 1, 0, none⟩))).run Tryz.prog (madeW kind W4) = .ok () W6 ∧
      GraphAt W6 (B.plus id (W4.heap.size + 1) W4.heap.size) { G with objs := putO (id, newO kind) G.objs } ∧ SameOn (fun k => ¬ foot B G k) W4 W6 := by
  have hb5 := madeW_below kind W4
  have hG5 := hG.below hb5
  have hz5 : (madeW kind W4).heap.size = W4.heap.size + 2 := by simp [madeW]
  obtain ⟨W6, hr, hm, hg⟩ := hG5.objs.update (t := 71) (e := 75) (int_keyed Tryz.underlying3) Tryz.underlying71 (Nat.lt_trans hb (by decide)) (keyOf_int_mk Tryz.underlying3 hwf) (val := .pointer (some ⟨W4.heap.size + 1, 0, none⟩)) (d := .lit (.int .i64 ((W4.heap.size + 1 : Nat) : Int))) (ps := []) rfl
  have hmb : B.mb < W4.heap.size := hG.objs.lt
  have hsame : ∀ k, k ≠ B.mb → k < (madeW kind W4).heap.size → W6.heap[k]? = (madeW kind W4).heap[k]? := fun k hk hl => hg.block k hl (fun e => hk (by injection e))
  refine ⟨W6, hr, ?_, ?_⟩
  · have hm1 : W6.ownsMap Tryz.prog 3 readP B.mb (G.objs.length + 1) (.map ((putO (id, newO kind) G.objs).map (encO (B.plus id (W4.heap.size + 1) W4.heap.size).ob))) := by
      rw [← put_plus B G id (newO kind) (W4.heap.size + 1) W4.heap.size hn]
      exact hm
    have hm2 := own_tight hm1
    rw [List.length_map] at hm2
    refine hG5.plus hn hwf (newO kind) (W4.heap.size + 1) W4.heap.size (fun hf => by have := hG.foot_lt hf; omega) (fun hf => by have := hG.foot_lt hf; omega) ?_ hm2 (fun k _ hk hl => hsame k hk hl)
    unfold ObjAt
    rw [show (B.plus id (W4.heap.size + 1) W4.heap.size).ob id = W4.heap.size + 1 from upd_same _ _ _, show (B.plus id (W4.heap.size + 1) W4.heap.size).lb id = W4.heap.size from upd_same _ _ _]
    exact ⟨(hsame _ (by omega) (by omega)).trans (madeW_ob kind W4), own_same (madeW_lb kind W4) (hsame _ (by omega) (by show W4.heap.size < _; omega))⟩
  · exact (SameOn.of_below hb5).trans ⟨hg.size, fun k hk hl => hsame k (fun e => hk (.inr (.inl e))) hl, hg.os, hg.tape, hg.output⟩
theorem graph_empty (w W : World) (next : Int) (hW : W = (w.alloc (.map #[] 0)).alloc (.cells #[.int .i64 next, .map (some w.heap.size), .int .i64 0] 73 (0, 0))) :
    GraphAt W ⟨w.heap.size + 1, w.heap.size, fun _ => 0, fun _ => 0⟩ ⟨next, 0, []⟩ ∧ Below w.heap.size w W := by
  have hz : (w.alloc (.map #[] 0)).heap.size = w.heap.size + 1 := by simp
  refine ⟨⟨?_, ?_, fun x hx => (by cases hx), fun x hx => (by cases hx), fun x hx => (by cases hx), fun x hx => (by cases hx), fun x hx => (by cases hx)⟩, ?_⟩
  · rw [hW, ← hz]
    exact World.alloc_heap_new _ _
  · rw [hW]
    exact (World.ownsMap_made w _ _ _).alloc _
  · rw [hW]
    exact (below_alloc (below_alloc (Below.refl _ _) _) _)
theorem wf_next {G : GS} (h : Ok G) (hn : G.next ≤ 1000) {x : Int × GO} (hx : x ∈ G.objs) : (Lit.int .i64 x.1).wf = true := by
  have := h.ids x hx
  show (decide (IntKind.i64.min ≤ x.1) && decide (x.1 ≤ IntKind.i64.max)) = true
  rw [show IntKind.i64.min = -9223372036854775808 by kernel_rfl, show IntKind.i64.max = 9223372036854775807 by kernel_rfl, Bool.and_eq_true, decide_eq_true_eq, decide_eq_true_eq]
  omega
theorem below_dn (w : World) (n : Nat) : Below w.heap.size w (w.drewN n) := ⟨rfl, rfl, rfl, Nat.le_refl _, fun _ _ => rfl⟩
theorem foot_has {B : GB} {G1 G2 : GS} {k : Nat} (h : foot B G1 k) (hh : ∀ id, has G1.objs id → has G2.objs id) : foot B G2 k := by
  rcases h with h | h | ⟨x, hx, h⟩
  · exact .inl h
  · exact .inr (.inl h)
  · obtain ⟨o, ho⟩ := hh x.1 ⟨x.2, hx⟩
    exact .inr (.inr ⟨_, ho, h⟩)
theorem has_empty {l : List (Int × GO)} {id : Int} : has (l.map emptyO) id ↔ has l id := by
  constructor
  · rintro ⟨o, ho⟩
    obtain ⟨z, hz, e⟩ := List.mem_map.1 ho
    have : z.1 = id := congrArg Prod.fst e
    exact ⟨z.2, by rw [← this]; exact hz⟩
  · rintro ⟨o, ho⟩
    exact ⟨newO o.kind, List.mem_map.2 ⟨_, ho, rfl⟩⟩
theorem rch_has {G : GS} (h : Ok G) {x : Int} (hr : Rch G x) : has G.objs x := by
  induction hr with
  | root => obtain ⟨o, ho, -⟩ := h.root; exact ⟨o, ho⟩
  | step _ ho hk h0 _ => exact ok_closed h _ ho _ hk h0
theorem seen_full {G : GS} (h : Ok G) {S : List (Int × GO)} (ha : Asc S) (hall : ∀ x, has S x ↔ Rch G x) (hr : ∀ x ∈ G.objs, Rch G x.1) : S.length = G.objs.length := by
  have h1 := sub_len ha (fun x hx => rch_has h ((hall x).1 hx))
  have h2 := sub_len h.asc (fun x ⟨o, ho⟩ => (hall x).2 (hr _ ho))
  omega
theorem seen_run {W : World} {b : Nat} {S : List (Int × GO)} (h : SeenAt W b S) {n : Nat} (hn : S.length = n) (ty : TypeId) : (Builtin.len_ #[100] ty #[.map (some b)]).run Tryz.prog W = .ok (.int .i64 (n : Int)) W := by
  have := World.ownsMap.len h Tryz.underlying100 ty
  rwa [show (Maps.size (DataW.map (List.map (encO ones) S))) = n by simp [Maps.size, hn]] at this
theorem link_may {G : GS} (h : Ok G) {x : Int × GO} (hx : x ∈ G.objs) {k : Lk} (hk : k ∈ x.2.links) : LkMay k := by
  have h1 := h.lk x hx k hk
  refine ⟨h1.1, h1.2.imp_right (fun ⟨a, b, _⟩ => ⟨a, b⟩)⟩
set_option maxHeartbeats 16000000 in
set_option maxRecDepth 100000 in
theorem load_good (G : GS) (hok : Ok G) (hf : ∀ x ∈ G.objs, x.2.held = 0) (hrest : ∀ x ∈ G.objs, x.1 = 1 ∨ 0 < x.2.leads) (hrch : ∀ x ∈ G.objs, Rch G x.1) (hnx : G.next ≤ 1000) (w : World) (hl : Lay w) (base : Nat) (v0 : Value) (hn : NodesAt w base v0 G.objs) :
    Calls Tryz.prog 28 #[.int .i64 G.next, v0] w fun e w' => ∃ B, e = .returned (.tuple #[.pointer (some ⟨B.g, 0, none⟩), .int .i64 0]) ∧ GraphAt w' B G ∧ (∀ q, foot B G q → w.heap.size ≤ q) ∧ Below w.heap.size w w' := by
  have HOK := Aside0.mk hok
  have HF := Aside0.mk hf
  have HREST := Aside0.mk hrest
  have HRCH := Aside0.mk hrch
  have HNX := Aside0.mk hnx
  have HL := Aside0.mk hl
  obtain ⟨hlen0, hroot⟩ := first_root hok
  obtain ⟨g0, k0, sl, rfl, hsl, hg0, hnode⟩ := nodes_read hn hlen0
  have HN := Aside0.mk hn
  obtain ⟨A0, c0, -, z1, z2, -, -⟩ := hnode 0 _ (List.getElem?_eq_getElem hlen0)
  have hk1 : (G.objs[0]'hlen0).2.kind = 1 := by
    obtain ⟨o, ho, hk⟩ := hok.root
    have hm : ((1 : Int), (G.objs[0]'hlen0).2) ∈ G.objs := by rw [← hroot]; exact List.getElem_mem _
    rw [asc_uniq hok.asc hm ho]
    exact hk
  rw [hroot] at z1
  rw [hk1] at z2
  simp only [Nat.zero_mul, Nat.zero_add] at z1 z2
  have hsize := hok.size
  have HND := Aside0.mk hnode
  have HG0 := Aside0.mk hg0
  have hnext1 : 1 < G.next := by obtain ⟨o, ho, -⟩ := hok.root; have := hok.ids _ ho; simp only at this; omega
  have z4 : ((G.objs.length : Int) == 0) = false := by simpa using (by omega : ¬ G.objs.length = 0)
  have z5 : decide (128 < (G.objs.length : Int)) = false := decide_eq_false (by omega)
  have z6 : ((0 : Int) < (G.objs.length : Int)) = True := eq_true (by omega)
  have z7 : (0 < G.objs.length) = True := eq_true hlen0
  have z8 : decide (G.next ≤ 1) = false := decide_eq_false (by omega)
  have HSZ := Aside0.mk hsize
  have HLEN0 := Aside0.mk hlen0
  clear hok hf hrest hrch hnx hl hn hnode hg0 hk1 hroot hsl hsize hnext1
  go_enter Tryz.func28, Tryz.ntmps28
  have hmk : ∀ t w, (Instr.makeMap t none).run Tryz.prog w = .ok (.map (some w.heap.size)) (w.alloc (.map #[] 0)) := fun _ _ => rfl
  go_upto_region 3 with (fail)
  clear z1 z2 z4 z5 z6 z7 z8
  obtain ⟨W1, hW1⟩ : ∃ W1, W1 = (w.alloc (.map #[] 0)).alloc (.cells #[.int .i64 G.next, .map (some w.heap.size), .int .i64 0] 73 (0, 0)) := ⟨_, rfl⟩
  obtain ⟨hge, hbe⟩ := graph_empty w W1 G.next hW1
  have HGE := Aside0.mk hge
  have HBE := Aside0.mk hbe
  have HW1 := Aside0.mk hW1
  have hzz : (w.alloc (.map #[] 0)).heap.size = w.heap.size + 1 := by simp
  clear hge hbe hW1
  go_upto_region 4 with (fail)
  rw [← HW1.out]
  obtain ⟨gb, hgb⟩ : ∃ gb, gb = w.heap.size + 1 := ⟨_, rfl⟩
  rw [← hgb]
  have HGB := Aside0.mk hgb
  clear hgb hzz hmk
  go_wp2
  go_loopg [47] G.objs.length (fun kq v47 W => ∃ (i : Nat) (iv : Int) (B : GB), v47 = .int .i64 iv ∧ Aside0 (iv = (i : Int)) ∧ Aside0 (i ≤ G.objs.length ∧ G.objs.length - i ≤ kq) ∧ Aside0 (B.g = gb) ∧ Aside0 (GraphAt W B ⟨G.next, 0, (G.objs.take i).map emptyO⟩) ∧ Aside0 (∀ q, foot B ⟨G.next, 0, (G.objs.take i).map emptyO⟩ q → w.heap.size ≤ q) ∧ Aside0 (Below w.heap.size w W))
  case atStart => exact ⟨0, 0, _, rfl, ⟨rfl⟩, ⟨by omega, by omega⟩, ⟨HGB.out.symm⟩, HGE, ⟨fun q hq => by rcases hq with rfl | rfl | ⟨x, hx, -⟩; exact Nat.le_succ _; exact Nat.le_refl _; cases hx⟩, HBE⟩
  case round =>
    obtain ⟨i, iv, B, rfl, HIV, HI, HBG, HG, HFT, HB⟩ := hrel
    by_cases hlt : i < G.objs.length
    · obtain ⟨x, hx⟩ : ∃ x, G.objs[i]? = some x := ⟨_, List.getElem?_eq_getElem hlt⟩
      have HX := Aside0.mk hx
      have HXM := Aside0.mk (List.mem_of_getElem? hx)
      obtain ⟨Ax, cx, hslx, x1, x2, x3, -⟩ := HND.out i x hx
      have y1 : wr.cell? ⟨g0, i * 3, none⟩ = some (.int .i64 x.1) := (HB.out.cell (p := ⟨g0, i * 3, none⟩) HG0.out).trans x1
      have y2 : wr.cell? ⟨g0, i * 3 + 1, none⟩ = some (.int .i64 x.2.kind) := (HB.out.cell (p := ⟨g0, i * 3 + 1, none⟩) HG0.out).trans x2
      have y3 : wr.cell? ⟨g0, i * 3 + 2, none⟩ = some (.slice Ax x.2.links.length cx) := (HB.out.cell (p := ⟨g0, i * 3 + 2, none⟩) HG0.out).trans x3
      have HLR : Aside0 (w.ownsRow base 42 3 (.slice Ax x.2.links.length cx) x.2.links.length (cells3 x.2.links)) := ⟨by
        obtain ⟨sl', h1, h2, h3⟩ := HN.out
        obtain ⟨u, hu⟩ : ∃ u, sl'[i]? = some u := ⟨_, List.getElem?_eq_getElem (by omega)⟩
        have h4 := h3 i x u hx hu
        obtain ⟨g', hg', -, hr⟩ := node_at h2 rfl hx hu
        obtain rfl : g0 = g' := by simpa using hg'
        have h5 := hr 2 _ rfl
        rw [x3] at h5
        obtain rfl := Option.some.inj h5
        exact h4⟩
      have HLT := Aside0.mk hlt
      have q1 : decide (iv < (G.objs.length : Int)) = true := decide_eq_true (by have := HIV.out; omega)
      have q2 : (iv < (G.objs.length : Int)) = True := eq_true (by have := HIV.out; omega)
      have q3 : (0 : Int) ≤ iv := by have := HIV.out; omega
      have q4 : iv.toNat = i := by have := HIV.out; omega
      obtain ⟨xb, hxb⟩ : ∃ xb, xb = wr.heap.size := ⟨_, rfl⟩
      obtain ⟨W5, hW5⟩ : ∃ W5, W5 = wr.alloc (.cells #[.int .i64 x.1, .int .i64 x.2.kind, .slice Ax x.2.links.length cx] 50 (0, 0)) := ⟨_, rfl⟩
      have hb5 : Below wr.heap.size wr W5 := by rw [hW5]; exact below_alloc (Below.refl _ _) _
      have hx5 : W5.heap[xb]? = some (.cells #[.int .i64 x.1, .int .i64 x.2.kind, .slice Ax x.2.links.length cx] 50 (0, 0)) := by rw [hW5, hxb]; exact World.alloc_heap_new _ _
      have HW5 := Aside0.mk hW5
      have HB5 := Aside0.mk hb5
      have HX5 := Aside0.mk hx5
      have HXB := Aside0.mk hxb
      have HBW5 := Aside0.mk (HB.out.trans (hb5.mono HB.out.size))
      clear x1 x2 x3 hslx hx hlt hxb hW5 hb5 hx5
      go_upto_region 7 with (fail)
      rw [← HW5.out, ← HXB.out]
      clear y1 y2 y3 q1
      have d0 : W5.cell? ⟨xb, 0, none⟩ = some (.int .i64 x.1) := (blk_cell HX5.out 0).trans rfl
      have d1 : W5.cell? ⟨xb, 1, none⟩ = some (.int .i64 x.2.kind) := (blk_cell HX5.out 1).trans rfl
      have d2 : W5.cell? ⟨xb, 2, none⟩ = some (.slice Ax x.2.links.length cx) := (blk_cell HX5.out 2).trans rfl
      have r1 : decide (G.next ≤ x.1) = false := decide_eq_false (by have := (HOK.out.ids x HXM.out).2; omega)
      have w1_ : wrap64 (iv + 1) = iv + 1 := wrap_ok9 _ (by omega) (by have := HIV.out; have := HSZ.out; have := HLT.out; omega)
      have w2_ : wrap64 (iv - 1) = iv - 1 := wrap_ok9 _ (by omega) (by have := HIV.out; have := HSZ.out; have := HLT.out; omega)
      clear q2
      rcases Nat.eq_zero_or_pos i with hi0 | hi0
      case' inl =>
        have t1 : decide (0 < iv) = false := decide_eq_false (by have := HIV.out; omega)
        have hS : W5.drew.cell? ⟨xb, 0, none⟩ = some (.int .i64 x.1) ∧ W5.drew.cell? ⟨xb, 1, none⟩ = some (.int .i64 x.2.kind) ∧ W5.drew.cell? ⟨xb, 2, none⟩ = some (.slice Ax x.2.links.length cx) ∧ Below W5.heap.size W5 W5.drew := ⟨d0, d1, d2, below_drew (Below.refl _ _)⟩
        refine start_ (n := 24) (S := fun W' => W'.cell? ⟨xb, 0, none⟩ = some (.int .i64 x.1) ∧ W'.cell? ⟨xb, 1, none⟩ = some (.int .i64 x.2.kind) ∧ W'.cell? ⟨xb, 2, none⟩ = some (.slice Ax x.2.links.length cx) ∧ Below W5.heap.size W5 W') (ds := []) #[false, false, false, false, false, false, false, false, false, false, false, false, false, false, false, false, false, false, false, false, false, false, false, false] (by kernel_rfl) rfl rfl hS (fun hHeld => ?_)
        refine take_ (i := 0) (N := some 52) (v := ?_) (a' := ?_) #[true, false, false, false, false, false, false, false, false, false, false, false, false, false, false, false, false, false, false, false, false, false, false, false] rfl rfl (by kernel_rfl) (fun _ _ _ h => h) (Or.inl ⟨by rfl, ?_⟩) hHeld ?_ ?_
        rotate_left
        · rintro w' ⟨s1_, s2_, s3_, s4_⟩
          go_simp
          with_reducible rfl
        rotate_left
        · simp only [Act.put, List.setIfInBounds_toArray, List.set_cons_zero, List.set_cons_succ, i64_w, i32_w]
          rfl
        refine one_ (i := 1) (N := some 53) #[true, true, false, false, false, false, false, false, false, false, false, false, false, false, false, false, false, false, false, false, false, false, false, false] rfl rfl (by kernel_rfl) (by decide) (fun K hK => ?_)
        skip
        refine goes_ Tryz.func51 (by kernel_rfl) rfl #[.agg #[.int .i64 x.1, .int .i64 x.2.kind, .slice Ax x.2.links.length cx]] (by rfl) rfl rfl (by (simp only [List.map_toArray, List.map_cons, List.map_nil]); rfl) ?_
        refine (may_good _ (lay_below HL.out (HBW5.out.trans (hHeld.2.2.2.mono HBW5.out.size))) base x.1 x.2.kind Ax cx x.2.links (row_same HLR.out (SameOn.of_below (S := fun _ => True) (HBW5.out.trans (hHeld.2.2.2.mono HBW5.out.size))) (fun _ _ => trivial)) (HOK.out.kind x HXM.out) (fun k hk => link_may HOK.out HXM.out hk) (HOK.out.names x HXM.out) (by have := HOK.out.len HXM.out; unfold bound; omega)).mono ?_
        rintro e_ w7 ⟨rfl, hb7⟩
        refine ⟨_, rfl, ?_⟩
        refine hK.out _ _ ⟨(hb7.cell (World.block_lt_of_cell? _ _ hHeld.1)).trans hHeld.1, (hb7.cell (World.block_lt_of_cell? _ _ hHeld.2.1)).trans hHeld.2.1, (hb7.cell (World.block_lt_of_cell? _ _ hHeld.2.2.1)).trans hHeld.2.2.1, hHeld.2.2.2.trans (hb7.mono hHeld.2.2.2.size)⟩ (fun hHeld => ?_)
        clear hK K
        refine norm_ (a' := ?_) ?_ ?_
        rotate_left
        · show Act.put _ (some 53) _ = _
          simp only [Act.put, List.setIfInBounds_toArray, List.set_cons_zero, List.set_cons_succ, i64_w, i32_w]
          rfl
        clear hb7
        refine pure_ (i := 2) (N := some 54) (v := ?_) (a' := ?_) #[true, true, true, false, false, false, false, false, false, false, false, false, false, false, false, false, false, false, false, false, false, false, false, false] rfl rfl (by kernel_rfl) (fun _ _ _ h => h) (Or.inl ⟨by rfl, ?_⟩) ?_ ?_
        rotate_left
        · intro w'
          go_simp
          with_reducible rfl
        rotate_left
        · simp only [Act.put, List.setIfInBounds_toArray, List.set_cons_zero, List.set_cons_succ, i64_w, i32_w]
          rfl
        refine pure_ (i := 3) (N := some 55) (v := ?_) (a' := ?_) #[true, true, true, true, false, false, false, false, false, false, false, false, false, false, false, false, false, false, false, false, false, false, false, false] rfl rfl (by kernel_rfl) (fun _ _ _ h => h) (Or.inl ⟨by rfl, ?_⟩) ?_ ?_
        rotate_left
        · intro w'
          go_simp
          with_reducible rfl
        rotate_left
        · simp only [Act.put, List.setIfInBounds_toArray, List.set_cons_zero, List.set_cons_succ, i64_w, i32_w]
          rfl
        refine pure_ (i := 4) (N := some 56) (v := ?_) (a' := ?_) #[true, true, true, true, true, false, false, false, false, false, false, false, false, false, false, false, false, false, false, false, false, false, false, false] rfl rfl (by kernel_rfl) (fun _ _ _ h => h) (Or.inl ⟨by rfl, ?_⟩) ?_ ?_
        rotate_left
        · intro w'
          go_simp
          with_reducible rfl
        rotate_left
        · simp only [Act.put, List.setIfInBounds_toArray, List.set_cons_zero, List.set_cons_succ, i64_w, i32_w]
          rfl
        refine pure_ (i := 5) (N := some 57) (v := ?_) (a' := ?_) #[true, true, true, true, true, true, false, false, false, false, false, false, false, false, false, false, false, false, false, false, false, false, false, false] rfl rfl (by kernel_rfl) (fun _ _ _ h => h) (Or.inl ⟨by rfl, ?_⟩) ?_ ?_
        rotate_left
        · intro w'
          go_simp
          with_reducible rfl
        rotate_left
        · simp only [Act.put, List.setIfInBounds_toArray, List.set_cons_zero, List.set_cons_succ, i64_w, i32_w]
          rfl
        refine pure_ (i := 6) (N := some 58) (v := ?_) (a' := ?_) #[true, true, true, true, true, true, true, false, false, false, false, false, false, false, false, false, false, false, false, false, false, false, false, false] rfl rfl (by kernel_rfl) (fun _ _ _ h => h) (Or.inl ⟨by rfl, ?_⟩) ?_ ?_
        rotate_left
        · intro w'
          go_simp
          with_reducible rfl
        rotate_left
        · simp only [Act.put, List.setIfInBounds_toArray, List.set_cons_zero, List.set_cons_succ, i64_w, i32_w]
          rfl
        refine pure_ (i := 7) (N := some 59) (v := undef) (a' := ?_) #[true, true, true, true, true, true, true, true, false, false, false, false, false, false, false, false, false, false, false, false, false, false, false, false] rfl rfl (by kernel_rfl) (fun _ _ _ h => h) (Or.inr ⟨by rfl, rfl⟩) ?_ ?_
        rotate_left
        · simp only [Act.put, List.setIfInBounds_toArray, List.set_cons_zero, List.set_cons_succ, i64_w, i32_w]
          rfl
        refine pure_ (i := 8) (N := some 60) (v := undef) (a' := ?_) #[true, true, true, true, true, true, true, true, true, false, false, false, false, false, false, false, false, false, false, false, false, false, false, false] rfl rfl (by kernel_rfl) (fun _ _ _ h => h) (Or.inr ⟨by rfl, rfl⟩) ?_ ?_
        rotate_left
        · simp only [Act.put, List.setIfInBounds_toArray, List.set_cons_zero, List.set_cons_succ, i64_w, i32_w]
          rfl
        refine pure_ (i := 9) (N := some 61) (v := undef) (a' := ?_) #[true, true, true, true, true, true, true, true, true, true, false, false, false, false, false, false, false, false, false, false, false, false, false, false] rfl rfl (by kernel_rfl) (fun _ _ _ h => h) (Or.inr ⟨by rfl, rfl⟩) ?_ ?_
        rotate_left
        · simp only [Act.put, List.setIfInBounds_toArray, List.set_cons_zero, List.set_cons_succ, i64_w, i32_w]
          rfl
        refine pure_ (i := 10) (N := some 62) (v := undef) (a' := ?_) #[true, true, true, true, true, true, true, true, true, true, true, false, false, false, false, false, false, false, false, false, false, false, false, false] rfl rfl (by kernel_rfl) (fun _ _ _ h => h) (Or.inr ⟨by rfl, rfl⟩) ?_ ?_
        rotate_left
        · simp only [Act.put, List.setIfInBounds_toArray, List.set_cons_zero, List.set_cons_succ, i64_w, i32_w]
          rfl
        refine pure_ (i := 11) (N := some 63) (v := undef) (a' := ?_) #[true, true, true, true, true, true, true, true, true, true, true, true, false, false, false, false, false, false, false, false, false, false, false, false] rfl rfl (by kernel_rfl) (fun _ _ _ h => h) (Or.inr ⟨by rfl, rfl⟩) ?_ ?_
        rotate_left
        · simp only [Act.put, List.setIfInBounds_toArray, List.set_cons_zero, List.set_cons_succ, i64_w, i32_w]
          rfl
        refine pure_ (i := 12) (N := some 64) (v := undef) (a' := ?_) #[true, true, true, true, true, true, true, true, true, true, true, true, true, false, false, false, false, false, false, false, false, false, false, false] rfl rfl (by kernel_rfl) (fun _ _ _ h => h) (Or.inr ⟨by rfl, rfl⟩) ?_ ?_
        rotate_left
        · simp only [Act.put, List.setIfInBounds_toArray, List.set_cons_zero, List.set_cons_succ, i64_w, i32_w]
          rfl
        refine pure_ (i := 13) (N := some 65) (v := undef) (a' := ?_) #[true, true, true, true, true, true, true, true, true, true, true, true, true, true, false, false, false, false, false, false, false, false, false, false] rfl rfl (by kernel_rfl) (fun _ _ _ h => h) (Or.inr ⟨by rfl, rfl⟩) ?_ ?_
        rotate_left
        · simp only [Act.put, List.setIfInBounds_toArray, List.set_cons_zero, List.set_cons_succ, i64_w, i32_w]
          rfl
        refine pure_ (i := 14) (N := some 66) (v := undef) (a' := ?_) #[true, true, true, true, true, true, true, true, true, true, true, true, true, true, true, false, false, false, false, false, false, false, false, false] rfl rfl (by kernel_rfl) (fun _ _ _ h => h) (Or.inr ⟨by rfl, rfl⟩) ?_ ?_
        rotate_left
        · simp only [Act.put, List.setIfInBounds_toArray, List.set_cons_zero, List.set_cons_succ, i64_w, i32_w]
          rfl
        refine pure_ (i := 15) (N := some 67) (v := undef) (a' := ?_) #[true, true, true, true, true, true, true, true, true, true, true, true, true, true, true, true, false, false, false, false, false, false, false, false] rfl rfl (by kernel_rfl) (fun _ _ _ h => h) (Or.inr ⟨by rfl, rfl⟩) ?_ ?_
        rotate_left
        · simp only [Act.put, List.setIfInBounds_toArray, List.set_cons_zero, List.set_cons_succ, i64_w, i32_w]
          rfl
        refine pure_ (i := 16) (N := some 68) (v := ?_) (a' := ?_) #[true, true, true, true, true, true, true, true, true, true, true, true, true, true, true, true, true, false, false, false, false, false, false, false] rfl rfl (by kernel_rfl) (fun _ _ _ h => h) (Or.inl ⟨by rfl, ?_⟩) ?_ ?_
        rotate_left
        · intro w'
          go_simp
          with_reducible rfl
        rotate_left
        · simp only [Act.put, List.setIfInBounds_toArray, List.set_cons_zero, List.set_cons_succ, i64_w, i32_w]
          rfl
        refine pure_ (i := 17) (N := some 69) (v := ?_) (a' := ?_) #[true, true, true, true, true, true, true, true, true, true, true, true, true, true, true, true, true, true, false, false, false, false, false, false] rfl rfl (by kernel_rfl) (fun _ _ _ h => h) (Or.inl ⟨by rfl, ?_⟩) ?_ ?_
        rotate_left
        · intro w'
          go_simp
          with_reducible rfl
        rotate_left
        · simp only [Act.put, List.setIfInBounds_toArray, List.set_cons_zero, List.set_cons_succ, i64_w, i32_w]
          rfl
        refine pure_ (i := 18) (N := some 70) (v := ?_) (a' := ?_) #[true, true, true, true, true, true, true, true, true, true, true, true, true, true, true, true, true, true, true, false, false, false, false, false] rfl rfl (by kernel_rfl) (fun _ _ _ h => h) (Or.inl ⟨by rfl, ?_⟩) ?_ ?_
        rotate_left
        · intro w'
          go_simp
          with_reducible rfl
        rotate_left
        · simp only [Act.put, List.setIfInBounds_toArray, List.set_cons_zero, List.set_cons_succ, i64_w, i32_w]
          rfl
        refine pure_ (i := 19) (N := some 71) (v := ?_) (a' := ?_) #[true, true, true, true, true, true, true, true, true, true, true, true, true, true, true, true, true, true, true, true, false, false, false, false] rfl rfl (by kernel_rfl) (fun _ _ _ h => h) (Or.inl ⟨by rfl, ?_⟩) ?_ ?_
        rotate_left
        · intro w'
          go_simp
          with_reducible rfl
        rotate_left
        · simp only [Act.put, List.setIfInBounds_toArray, List.set_cons_zero, List.set_cons_succ, i64_w, i32_w]
          rfl
        refine take_ (i := 20) (N := some 72) (v := ?_) (a' := ?_) #[true, true, true, true, true, true, true, true, true, true, true, true, true, true, true, true, true, true, true, true, true, false, false, false] rfl rfl (by kernel_rfl) (fun _ _ _ h => h) (Or.inl ⟨by rfl, ?_⟩) hHeld ?_ ?_
        rotate_left
        · rintro w' ⟨s1_, s2_, s3_, s4_⟩
          go_simp
          with_reducible rfl
        rotate_left
        · simp only [Act.put, List.setIfInBounds_toArray, List.set_cons_zero, List.set_cons_succ, i64_w, i32_w]
          rfl
        refine pure_ (i := 21) (N := some 73) (v := ?_) (a' := ?_) #[true, true, true, true, true, true, true, true, true, true, true, true, true, true, true, true, true, true, true, true, true, true, false, false] rfl rfl (by kernel_rfl) (fun _ _ _ h => h) (Or.inl ⟨by rfl, ?_⟩) ?_ ?_
        rotate_left
        · intro w'
          go_simp
          with_reducible rfl
        rotate_left
        · simp only [Act.put, List.setIfInBounds_toArray, List.set_cons_zero, List.set_cons_succ, i64_w, i32_w]
          rfl
        refine pure_ (i := 22) (N := some 74) (v := ?_) (a' := ?_) #[true, true, true, true, true, true, true, true, true, true, true, true, true, true, true, true, true, true, true, true, true, true, true, false] rfl rfl (by kernel_rfl) (fun _ _ _ h => h) (Or.inl ⟨by rfl, ?_⟩) ?_ ?_
        rotate_left
        · intro w'
          go_simp
          with_reducible rfl
        rotate_left
        · simp only [Act.put, List.setIfInBounds_toArray, List.set_cons_zero, List.set_cons_succ, i64_w, i32_w]
          rfl
        refine pure_ (i := 23) (N := some 75) (v := ?_) (a' := ?_) #[true, true, true, true, true, true, true, true, true, true, true, true, true, true, true, true, true, true, true, true, true, true, true, true] rfl rfl (by kernel_rfl) (fun _ _ _ h => h) (Or.inl ⟨by rfl, ?_⟩) ?_ ?_
        rotate_left
        · intro w'
          go_simp
          with_reducible rfl
        rotate_left
        · simp only [Act.put, List.setIfInBounds_toArray, List.set_cons_zero, List.set_cons_succ, i64_w, i32_w]
          rfl
        refine done_ (by kernel_rfl) ?_
        have HBE := Aside0.mk hHeld.2.2.2
        clear hHeld hS d0 d1 d2
        clear t1 hi0
        go_upto_region 9 with (fail)
      case' inr =>
        obtain ⟨p, hp⟩ : ∃ p, i = p + 1 := ⟨i - 1, by omega⟩
        obtain ⟨y0, hy0⟩ : ∃ y0, G.objs[p]? = some y0 := ⟨_, List.getElem?_eq_getElem (by have := HLT.out; omega)⟩
        obtain ⟨Ay0, cy0, -, y01, -, -, -⟩ := HND.out p y0 hy0
        have p0 : W5.cell? ⟨g0, p * 3, none⟩ = some (.int .i64 y0.1) := (HBW5.out.cell (p := ⟨g0, p * 3, none⟩) HG0.out).trans y01
        have hlt0 : y0.1 < x.1 := by
          obtain ⟨h1, e1⟩ := List.getElem?_eq_some_iff.1 hy0
          obtain ⟨h2, e2⟩ := List.getElem?_eq_some_iff.1 HX.out
          have := asc_get HOK.out.asc (show p < i by omega) h2
          rw [e1, e2] at this
          exact this
        have r2 : decide (x.1 ≤ y0.1) = false := decide_eq_false (by omega)
        have t1 : decide (0 < iv) = true := decide_eq_true (by have := HIV.out; omega)
        have v1 : (iv - 1).toNat = p := by have := HIV.out; omega
        have v2 : (0 : Int) ≤ iv - 1 := by have := HIV.out; omega
        have v3 : (1 : Int) ≤ iv := by omega
        have v4 : iv ≤ (G.objs.length : Int) := by have := HIV.out; have := HLT.out; omega
        have v5 : (iv - 1 < (G.objs.length : Int)) = True := eq_true (by omega)
        have v6 : ((0 : Int) ≤ iv - 1) = True := eq_true v2
        have v7 : ((1 : Int) ≤ iv) = True := eq_true v3
        have v8 : (iv ≤ (G.objs.length : Int)) = True := eq_true v4
        clear hy0 y01 hlt0
        have hS : W5.drew.cell? ⟨g0, p * 3, none⟩ = some (.int .i64 y0.1) ∧ W5.drew.cell? ⟨xb, 0, none⟩ = some (.int .i64 x.1) ∧ W5.drew.cell? ⟨xb, 1, none⟩ = some (.int .i64 x.2.kind) ∧ W5.drew.cell? ⟨xb, 2, none⟩ = some (.slice Ax x.2.links.length cx) ∧ Below W5.heap.size W5 W5.drew := ⟨p0, d0, d1, d2, below_drew (Below.refl _ _)⟩
        refine start_ (n := 24) (S := fun W' => W'.cell? ⟨g0, p * 3, none⟩ = some (.int .i64 y0.1) ∧ W'.cell? ⟨xb, 0, none⟩ = some (.int .i64 x.1) ∧ W'.cell? ⟨xb, 1, none⟩ = some (.int .i64 x.2.kind) ∧ W'.cell? ⟨xb, 2, none⟩ = some (.slice Ax x.2.links.length cx) ∧ Below W5.heap.size W5 W') (ds := []) #[false, false, false, false, false, false, false, false, false, false, false, false, false, false, false, false, false, false, false, false, false, false, false, false] (by kernel_rfl) rfl rfl hS (fun hHeld => ?_)
        refine take_ (i := 0) (N := some 52) (v := ?_) (a' := ?_) #[true, false, false, false, false, false, false, false, false, false, false, false, false, false, false, false, false, false, false, false, false, false, false, false] rfl rfl (by kernel_rfl) (fun _ _ _ h => h) (Or.inl ⟨by rfl, ?_⟩) hHeld ?_ ?_
        rotate_left
        · rintro w' ⟨s0_, s1_, s2_, s3_, s4_⟩
          go_simp
          with_reducible rfl
        rotate_left
        · simp only [Act.put, List.setIfInBounds_toArray, List.set_cons_zero, List.set_cons_succ, i64_w, i32_w]
          rfl
        refine one_ (i := 1) (N := some 53) #[true, true, false, false, false, false, false, false, false, false, false, false, false, false, false, false, false, false, false, false, false, false, false, false] rfl rfl (by kernel_rfl) (by decide) (fun K hK => ?_)
        skip
        refine goes_ Tryz.func51 (by kernel_rfl) rfl #[.agg #[.int .i64 x.1, .int .i64 x.2.kind, .slice Ax x.2.links.length cx]] (by rfl) rfl rfl (by (simp only [List.map_toArray, List.map_cons, List.map_nil]); rfl) ?_
        refine (may_good _ (lay_below HL.out (HBW5.out.trans (hHeld.2.2.2.2.mono HBW5.out.size))) base x.1 x.2.kind Ax cx x.2.links (row_same HLR.out (SameOn.of_below (S := fun _ => True) (HBW5.out.trans (hHeld.2.2.2.2.mono HBW5.out.size))) (fun _ _ => trivial)) (HOK.out.kind x HXM.out) (fun k hk => link_may HOK.out HXM.out hk) (HOK.out.names x HXM.out) (by have := HOK.out.len HXM.out; unfold bound; omega)).mono ?_
        rintro e_ w7 ⟨rfl, hb7⟩
        refine ⟨_, rfl, ?_⟩
        refine hK.out _ _ ⟨(hb7.cell (World.block_lt_of_cell? _ _ hHeld.1)).trans hHeld.1, (hb7.cell (World.block_lt_of_cell? _ _ hHeld.2.1)).trans hHeld.2.1, (hb7.cell (World.block_lt_of_cell? _ _ hHeld.2.2.1)).trans hHeld.2.2.1, (hb7.cell (World.block_lt_of_cell? _ _ hHeld.2.2.2.1)).trans hHeld.2.2.2.1, hHeld.2.2.2.2.trans (hb7.mono hHeld.2.2.2.2.size)⟩ (fun hHeld => ?_)
        clear hK K
        refine norm_ (a' := ?_) ?_ ?_
        rotate_left
        · show Act.put _ (some 53) _ = _
          simp only [Act.put, List.setIfInBounds_toArray, List.set_cons_zero, List.set_cons_succ, i64_w, i32_w]
          rfl
        clear hb7
        refine pure_ (i := 2) (N := some 54) (v := ?_) (a' := ?_) #[true, true, true, false, false, false, false, false, false, false, false, false, false, false, false, false, false, false, false, false, false, false, false, false] rfl rfl (by kernel_rfl) (fun _ _ _ h => h) (Or.inl ⟨by rfl, ?_⟩) ?_ ?_
        rotate_left
        · intro w'
          go_simp
          with_reducible rfl
        rotate_left
        · simp only [Act.put, List.setIfInBounds_toArray, List.set_cons_zero, List.set_cons_succ, i64_w, i32_w]
          rfl
        refine pure_ (i := 3) (N := some 55) (v := ?_) (a' := ?_) #[true, true, true, true, false, false, false, false, false, false, false, false, false, false, false, false, false, false, false, false, false, false, false, false] rfl rfl (by kernel_rfl) (fun _ _ _ h => h) (Or.inl ⟨by rfl, ?_⟩) ?_ ?_
        rotate_left
        · intro w'
          go_simp
          with_reducible rfl
        rotate_left
        · simp only [Act.put, List.setIfInBounds_toArray, List.set_cons_zero, List.set_cons_succ, i64_w, i32_w]
          rfl
        refine pure_ (i := 4) (N := some 56) (v := ?_) (a' := ?_) #[true, true, true, true, true, false, false, false, false, false, false, false, false, false, false, false, false, false, false, false, false, false, false, false] rfl rfl (by kernel_rfl) (fun _ _ _ h => h) (Or.inl ⟨by rfl, ?_⟩) ?_ ?_
        rotate_left
        · intro w'
          go_simp
          with_reducible rfl
        rotate_left
        · simp only [Act.put, List.setIfInBounds_toArray, List.set_cons_zero, List.set_cons_succ, i64_w, i32_w]
          rfl
        refine pure_ (i := 5) (N := some 57) (v := ?_) (a' := ?_) #[true, true, true, true, true, true, false, false, false, false, false, false, false, false, false, false, false, false, false, false, false, false, false, false] rfl rfl (by kernel_rfl) (fun _ _ _ h => h) (Or.inl ⟨by rfl, ?_⟩) ?_ ?_
        rotate_left
        · intro w'
          go_simp
          with_reducible rfl
        rotate_left
        · simp only [Act.put, List.setIfInBounds_toArray, List.set_cons_zero, List.set_cons_succ, i64_w, i32_w]
          rfl
        refine pure_ (i := 6) (N := some 58) (v := ?_) (a' := ?_) #[true, true, true, true, true, true, true, false, false, false, false, false, false, false, false, false, false, false, false, false, false, false, false, false] rfl rfl (by kernel_rfl) (fun _ _ _ h => h) (Or.inl ⟨by rfl, ?_⟩) ?_ ?_
        rotate_left
        · intro w'
          go_simp
          with_reducible rfl
        rotate_left
        · simp only [Act.put, List.setIfInBounds_toArray, List.set_cons_zero, List.set_cons_succ, i64_w, i32_w]
          rfl
        refine pure_ (i := 7) (N := some 59) (v := ?_) (a' := ?_) #[true, true, true, true, true, true, true, true, false, false, false, false, false, false, false, false, false, false, false, false, false, false, false, false] rfl rfl (by kernel_rfl) (fun _ _ _ h => h) (Or.inl ⟨by rfl, ?_⟩) ?_ ?_
        rotate_left
        · intro w'
          go_simp
          with_reducible rfl
        rotate_left
        · simp only [Act.put, List.setIfInBounds_toArray, List.set_cons_zero, List.set_cons_succ, i64_w, i32_w]
          rfl
        refine take_ (i := 8) (N := some 60) (v := ?_) (a' := ?_) #[true, true, true, true, true, true, true, true, true, false, false, false, false, false, false, false, false, false, false, false, false, false, false, false] rfl rfl (by kernel_rfl) (fun _ _ _ h => h) (Or.inl ⟨by rfl, ?_⟩) hHeld ?_ ?_
        rotate_left
        · rintro w' ⟨s0_, s1_, s2_, s3_, s4_⟩
          go_simp
          with_reducible rfl
        rotate_left
        · simp only [Act.put, List.setIfInBounds_toArray, List.set_cons_zero, List.set_cons_succ, i64_w, i32_w]
          rfl
        refine pure_ (i := 9) (N := some 61) (v := ?_) (a' := ?_) #[true, true, true, true, true, true, true, true, true, true, false, false, false, false, false, false, false, false, false, false, false, false, false, false] rfl rfl (by kernel_rfl) (fun _ _ _ h => h) (Or.inl ⟨by rfl, ?_⟩) ?_ ?_
        rotate_left
        · intro w'
          go_simp
          with_reducible rfl
        rotate_left
        · simp only [Act.put, List.setIfInBounds_toArray, List.set_cons_zero, List.set_cons_succ, i64_w, i32_w]
          rfl
        refine pure_ (i := 10) (N := some 62) (v := ?_) (a' := ?_) #[true, true, true, true, true, true, true, true, true, true, true, false, false, false, false, false, false, false, false, false, false, false, false, false] rfl rfl (by kernel_rfl) (fun _ _ _ h => h) (Or.inl ⟨by rfl, ?_⟩) ?_ ?_
        rotate_left
        · intro w'
          go_simp
          with_reducible rfl
        rotate_left
        · simp only [Act.put, List.setIfInBounds_toArray, List.set_cons_zero, List.set_cons_succ, i64_w, i32_w]
          rfl
        refine pure_ (i := 11) (N := some 63) (v := ?_) (a' := ?_) #[true, true, true, true, true, true, true, true, true, true, true, true, false, false, false, false, false, false, false, false, false, false, false, false] rfl rfl (by kernel_rfl) (fun _ _ _ h => h) (Or.inl ⟨by rfl, ?_⟩) ?_ ?_
        rotate_left
        · intro w'
          go_simp
          with_reducible rfl
        rotate_left
        · simp only [Act.put, List.setIfInBounds_toArray, List.set_cons_zero, List.set_cons_succ, i64_w, i32_w]
          rfl
        refine pure_ (i := 12) (N := some 64) (v := ?_) (a' := ?_) #[true, true, true, true, true, true, true, true, true, true, true, true, true, false, false, false, false, false, false, false, false, false, false, false] rfl rfl (by kernel_rfl) (fun _ _ _ h => h) (Or.inl ⟨by rfl, ?_⟩) ?_ ?_
        rotate_left
        · intro w'
          go_simp
          with_reducible rfl
        rotate_left
        · simp only [Act.put, List.setIfInBounds_toArray, List.set_cons_zero, List.set_cons_succ, i64_w, i32_w]
          rfl
        refine pure_ (i := 13) (N := some 65) (v := ?_) (a' := ?_) #[true, true, true, true, true, true, true, true, true, true, true, true, true, true, false, false, false, false, false, false, false, false, false, false] rfl rfl (by kernel_rfl) (fun _ _ _ h => h) (Or.inl ⟨by rfl, ?_⟩) ?_ ?_
        rotate_left
        · intro w'
          go_simp
          with_reducible rfl
        rotate_left
        · simp only [Act.put, List.setIfInBounds_toArray, List.set_cons_zero, List.set_cons_succ, i64_w, i32_w]
          rfl
        refine take_ (i := 14) (N := some 66) (v := ?_) (a' := ?_) #[true, true, true, true, true, true, true, true, true, true, true, true, true, true, true, false, false, false, false, false, false, false, false, false] rfl rfl (by kernel_rfl) (fun _ _ _ h => h) (Or.inl ⟨by rfl, ?_⟩) hHeld ?_ ?_
        rotate_left
        · rintro w' ⟨s0_, s1_, s2_, s3_, s4_⟩
          go_simp
          with_reducible rfl
        rotate_left
        · simp only [Act.put, List.setIfInBounds_toArray, List.set_cons_zero, List.set_cons_succ, i64_w, i32_w]
          rfl
        refine pure_ (i := 15) (N := some 67) (v := ?_) (a' := ?_) #[true, true, true, true, true, true, true, true, true, true, true, true, true, true, true, true, false, false, false, false, false, false, false, false] rfl rfl (by kernel_rfl) (fun _ _ _ h => h) (Or.inl ⟨by rfl, ?_⟩) ?_ ?_
        rotate_left
        · intro w'
          go_simp
          with_reducible rfl
        rotate_left
        · simp only [Act.put, List.setIfInBounds_toArray, List.set_cons_zero, List.set_cons_succ, i64_w, i32_w]
          rfl
        refine pure_ (i := 16) (N := some 68) (v := ?_) (a' := ?_) #[true, true, true, true, true, true, true, true, true, true, true, true, true, true, true, true, true, false, false, false, false, false, false, false] rfl rfl (by kernel_rfl) (fun _ _ _ h => h) (Or.inl ⟨by rfl, ?_⟩) ?_ ?_
        rotate_left
        · intro w'
          go_simp
          with_reducible rfl
        rotate_left
        · simp only [Act.put, List.setIfInBounds_toArray, List.set_cons_zero, List.set_cons_succ, i64_w, i32_w]
          rfl
        refine pure_ (i := 17) (N := some 69) (v := ?_) (a' := ?_) #[true, true, true, true, true, true, true, true, true, true, true, true, true, true, true, true, true, true, false, false, false, false, false, false] rfl rfl (by kernel_rfl) (fun _ _ _ h => h) (Or.inl ⟨by rfl, ?_⟩) ?_ ?_
        rotate_left
        · intro w'
          go_simp
          with_reducible rfl
        rotate_left
        · simp only [Act.put, List.setIfInBounds_toArray, List.set_cons_zero, List.set_cons_succ, i64_w, i32_w]
          rfl
        refine pure_ (i := 18) (N := some 70) (v := ?_) (a' := ?_) #[true, true, true, true, true, true, true, true, true, true, true, true, true, true, true, true, true, true, true, false, false, false, false, false] rfl rfl (by kernel_rfl) (fun _ _ _ h => h) (Or.inl ⟨by rfl, ?_⟩) ?_ ?_
        rotate_left
        · intro w'
          go_simp
          with_reducible rfl
        rotate_left
        · simp only [Act.put, List.setIfInBounds_toArray, List.set_cons_zero, List.set_cons_succ, i64_w, i32_w]
          rfl
        refine pure_ (i := 19) (N := some 71) (v := ?_) (a' := ?_) #[true, true, true, true, true, true, true, true, true, true, true, true, true, true, true, true, true, true, true, true, false, false, false, false] rfl rfl (by kernel_rfl) (fun _ _ _ h => h) (Or.inl ⟨by rfl, ?_⟩) ?_ ?_
        rotate_left
        · intro w'
          go_simp
          with_reducible rfl
        rotate_left
        · simp only [Act.put, List.setIfInBounds_toArray, List.set_cons_zero, List.set_cons_succ, i64_w, i32_w]
          rfl
        refine take_ (i := 20) (N := some 72) (v := ?_) (a' := ?_) #[true, true, true, true, true, true, true, true, true, true, true, true, true, true, true, true, true, true, true, true, true, false, false, false] rfl rfl (by kernel_rfl) (fun _ _ _ h => h) (Or.inl ⟨by rfl, ?_⟩) hHeld ?_ ?_
        rotate_left
        · rintro w' ⟨s0_, s1_, s2_, s3_, s4_⟩
          go_simp
          with_reducible rfl
        rotate_left
        · simp only [Act.put, List.setIfInBounds_toArray, List.set_cons_zero, List.set_cons_succ, i64_w, i32_w]
          rfl
        refine pure_ (i := 21) (N := some 73) (v := ?_) (a' := ?_) #[true, true, true, true, true, true, true, true, true, true, true, true, true, true, true, true, true, true, true, true, true, true, false, false] rfl rfl (by kernel_rfl) (fun _ _ _ h => h) (Or.inl ⟨by rfl, ?_⟩) ?_ ?_
        rotate_left
        · intro w'
          go_simp
          with_reducible rfl
        rotate_left
        · simp only [Act.put, List.setIfInBounds_toArray, List.set_cons_zero, List.set_cons_succ, i64_w, i32_w]
          rfl
        refine pure_ (i := 22) (N := some 74) (v := ?_) (a' := ?_) #[true, true, true, true, true, true, true, true, true, true, true, true, true, true, true, true, true, true, true, true, true, true, true, false] rfl rfl (by kernel_rfl) (fun _ _ _ h => h) (Or.inl ⟨by rfl, ?_⟩) ?_ ?_
        rotate_left
        · intro w'
          go_simp
          with_reducible rfl
        rotate_left
        · simp only [Act.put, List.setIfInBounds_toArray, List.set_cons_zero, List.set_cons_succ, i64_w, i32_w]
          rfl
        refine pure_ (i := 23) (N := some 75) (v := ?_) (a' := ?_) #[true, true, true, true, true, true, true, true, true, true, true, true, true, true, true, true, true, true, true, true, true, true, true, true] rfl rfl (by kernel_rfl) (fun _ _ _ h => h) (Or.inl ⟨by rfl, ?_⟩) ?_ ?_
        rotate_left
        · intro w'
          go_simp
          with_reducible rfl
        rotate_left
        · simp only [Act.put, List.setIfInBounds_toArray, List.set_cons_zero, List.set_cons_succ, i64_w, i32_w]
          rfl
        refine done_ (by kernel_rfl) ?_
        have HBE := Aside0.mk hHeld.2.2.2.2
        clear hHeld hS d0 d1 d2
        clear t1 hi0 r2 v1 v2 v3 v4 v5 v6 v7 v8 p0 hp
        go_upto_region 9 with (fail)
      all_goals
        have hx7 : w7.heap[xb]? = some (.cells #[.int .i64 x.1, .int .i64 x.2.kind, .slice Ax x.2.links.length cx] 50 (0, 0)) := (HBE.out.block _ (blk_lt HX5.out)).trans HX5.out
        have hbr7 : Below wr.heap.size wr w7 := HB5.out.trans (HBE.out.mono HB5.out.size)
        have hg7 : GraphAt w7.drew B ⟨G.next, 0, (G.objs.take i).map emptyO⟩ := HG.out.below (hbr7.trans ((below_drew (Below.refl _ _)).mono hbr7.size))
        obtain ⟨hat0, hput⟩ := load_obj HOK.out.asc HX.out G.next 0
        obtain ⟨W6, hr6, hg6, hs6⟩ := obj_lays B _ x.1 x.2.kind w7.drew hg7 hat0 (wf_next HOK.out HNX.out HXM.out) (by show ((G.objs.take i).map emptyO).length < bound; rw [List.length_map, List.length_take]; have := HSZ.out; unfold bound; omega)
        simp only at hg6
        rw [hput] at hg6
        have HR6 := Aside0.mk hr6
        have HG6 := Aside0.mk hg6
        have HS6 := Aside0.mk hs6
        have HBR7 := Aside0.mk hbr7
        have HPUT := Aside0.mk hput
        have e0 : w7.drew.cell? ⟨gb, 1, none⟩ = some (.map (some B.mb)) := by rw [← HBG.out]; exact hg7.c1
        have hS : w7.drew.cell? ⟨gb, 1, none⟩ = some (.map (some B.mb)) ∧ w7.drew.cell? ⟨xb, 0, none⟩ = some (.int .i64 x.1) ∧ w7.drew.cell? ⟨xb, 1, none⟩ = some (.int .i64 x.2.kind) := ⟨e0, (blk_cell hx7 0).trans rfl, (blk_cell hx7 1).trans rfl⟩
        clear hx7 hbr7 hg7 hat0 hput hr6 hg6 hs6 e0 r1 w2_
        refine start_ (n := 10) (S := fun W' => W'.cell? ⟨gb, 1, none⟩ = some (.map (some B.mb)) ∧ W'.cell? ⟨xb, 0, none⟩ = some (.int .i64 x.1) ∧ W'.cell? ⟨xb, 1, none⟩ = some (.int .i64 x.2.kind)) (ds := [9]) #[false, false, false, false, false, false, false, false, false, false] (by kernel_rfl) rfl rfl hS (fun hHeld => ?_)
        refine pure_ (i := 0) (N := some 76) (v := ?_) (a' := ?_) #[true, false, false, false, false, false, false, false, false, false] rfl rfl (by kernel_rfl) (fun _ _ _ h => h) (Or.inl ⟨by rfl, ?_⟩) ?_ ?_
        rotate_left
        · intro w'
          go_simp
          with_reducible rfl
        rotate_left
        · simp only [Act.put, List.setIfInBounds_toArray, List.set_cons_zero, List.set_cons_succ, i64_w, i32_w]
          rfl
        refine pure_ (i := 1) (N := some 77) (v := ?_) (a' := ?_) #[true, true, false, false, false, false, false, false, false, false] rfl rfl (by kernel_rfl) (fun _ _ _ h => h) (Or.inl ⟨by rfl, ?_⟩) ?_ ?_
        rotate_left
        · intro w'
          go_simp
          with_reducible rfl
        rotate_left
        · simp only [Act.put, List.setIfInBounds_toArray, List.set_cons_zero, List.set_cons_succ, i64_w, i32_w]
          rfl
        refine pure_ (i := 2) (N := some 78) (v := ?_) (a' := ?_) #[true, true, true, false, false, false, false, false, false, false] rfl rfl (by kernel_rfl) (fun _ _ _ h => h) (Or.inl ⟨by rfl, ?_⟩) ?_ ?_
        rotate_left
        · intro w'
          go_simp
          with_reducible rfl
        rotate_left
        · simp only [Act.put, List.setIfInBounds_toArray, List.set_cons_zero, List.set_cons_succ, i64_w, i32_w]
          rfl
        refine take_ (i := 3) (N := some 79) (v := ?_) (a' := ?_) #[true, true, true, true, false, false, false, false, false, false] rfl rfl (by kernel_rfl) (fun _ _ _ h => h) (Or.inl ⟨by rfl, ?_⟩) hHeld ?_ ?_
        rotate_left
        · rintro w' ⟨s1_, s2_, s3_⟩
          go_simp
          with_reducible rfl
        rotate_left
        · simp only [Act.put, List.setIfInBounds_toArray, List.set_cons_zero, List.set_cons_succ, i64_w, i32_w]
          rfl
        refine pure_ (i := 4) (N := some 80) (v := ?_) (a' := ?_) #[true, true, true, true, true, false, false, false, false, false] rfl rfl (by kernel_rfl) (fun _ _ _ h => h) (Or.inl ⟨by rfl, ?_⟩) ?_ ?_
        rotate_left
        · intro w'
          go_simp
          with_reducible rfl
        rotate_left
        · simp only [Act.put, List.setIfInBounds_toArray, List.set_cons_zero, List.set_cons_succ, i64_w, i32_w]
          rfl
        refine take_ (i := 5) (N := some 81) (v := ?_) (a' := ?_) #[true, true, true, true, true, true, false, false, false, false] rfl rfl (by kernel_rfl) (fun _ _ _ h => h) (Or.inl ⟨by rfl, ?_⟩) hHeld ?_ ?_
        rotate_left
        · rintro w' ⟨s1_, s2_, s3_⟩
          go_simp
          with_reducible rfl
        rotate_left
        · simp only [Act.put, List.setIfInBounds_toArray, List.set_cons_zero, List.set_cons_succ, i64_w, i32_w]
          rfl
        refine pure_ (i := 6) (N := some 82) (v := ?_) (a' := ?_) #[true, true, true, true, true, true, true, false, false, false] rfl rfl (by kernel_rfl) (fun _ _ _ h => h) (Or.inl ⟨by rfl, ?_⟩) ?_ ?_
        rotate_left
        · intro w'
          go_simp
          with_reducible rfl
        rotate_left
        · simp only [Act.put, List.setIfInBounds_toArray, List.set_cons_zero, List.set_cons_succ, i64_w, i32_w]
          rfl
        refine take_ (i := 7) (N := some 83) (v := ?_) (a' := ?_) #[true, true, true, true, true, true, true, true, false, false] rfl rfl (by kernel_rfl) (fun _ _ _ h => h) (Or.inl ⟨by rfl, ?_⟩) hHeld ?_ ?_
        rotate_left
        · rintro w' ⟨s1_, s2_, s3_⟩
          go_simp
          with_reducible rfl
        rotate_left
        · simp only [Act.put, List.setIfInBounds_toArray, List.set_cons_zero, List.set_cons_succ, i64_w, i32_w]
          rfl
        refine one_ (i := 8) (N := some 84) #[true, true, true, true, true, true, true, true, true, false] rfl rfl (by kernel_rfl) (by decide) (fun K hK => ?_)
        skip
        refine goes_ Tryz.func38 (by kernel_rfl) rfl #[.int .i64 x.2.kind] (by rfl) rfl rfl (by (simp only [List.map_toArray, List.map_cons, List.map_nil]); rfl) ?_
        refine (made_calls x.2.kind _).mono ?_
        rintro e_ WL1 ⟨rfl, rfl⟩
        refine ⟨_, rfl, ?_⟩
        refine hK.out _ _ ⟨((madeW_below _ _).cell (World.block_lt_of_cell? _ _ hHeld.1)).trans hHeld.1, ((madeW_below _ _).cell (World.block_lt_of_cell? _ _ hHeld.2.1)).trans hHeld.2.1, ((madeW_below _ _).cell (World.block_lt_of_cell? _ _ hHeld.2.2)).trans hHeld.2.2⟩ (fun hHeld => ?_)
        clear hK K
        refine norm_ (a' := ?_) ?_ ?_
        rotate_left
        · show Act.put _ (some 84) _ = _
          simp only [Act.put, List.setIfInBounds_toArray, List.set_cons_zero, List.set_cons_succ, i64_w, i32_w]
          rfl
        refine last_ (i := 9) (N := none) #[true, true, true, true, true, true, true, true, true, true] rfl rfl (by kernel_rfl) (by decide) (fun K hK => ?_)
        refine step_update rfl (.tmp 79) (.tmp 81) (.tmp 84) 71 rfl rfl rfl rfl HR6.out ?_
        refine hK.out _ _ ?_
        clear hK K
        refine done_ (by kernel_rfl) ?_
        clear hHeld hS
        go_wp2
        clear q4
        go_roundg (gk - 1)
        case measure => have := HI.out; have := HLT.out; omega
        case rel =>
          have hz : w.heap.size ≤ w7.heap.size := Nat.le_trans HB.out.size HBR7.out.size
          refine ⟨i + 1, iv + 1, B.plus x.1 (w7.heap.size + 1) w7.heap.size, by first | rfl | rw [w1_], ⟨by have := HIV.out; omega⟩, ⟨by have := HLT.out; omega, by have := HI.out; omega⟩, ⟨HBG.out⟩, ⟨HG6.out⟩, ⟨fun q hq => ?_⟩, ⟨?_⟩⟩
          · rw [← HPUT.out] at hq
            rcases foot_plus (G := ⟨G.next, 0, (G.objs.take i).map emptyO⟩) hq with h | rfl | rfl
            · exact HFT.out q h
            · omega
            · exact hz
          · have h1 : Below w.heap.size w w7.drew := (HB.out.trans (HBR7.out.mono HB.out.size)).trans ((below_drew (Below.refl _ _)).mono hz)
            exact h1.trans (HS6.out.below (fun k hk hfk => by have := HFT.out k hfk; omega) h1.size)
    · have hi : i = G.objs.length := by have := HI.out; omega
      have hg0 := HG.out
      rw [hi, List.take_length] at hg0
      have hft0 := HFT.out
      rw [hi, List.take_length] at hft0
      have HGS := Aside0.mk hg0
      have HFT0 := Aside0.mk hft0
      have q1 : decide (iv < (G.objs.length : Int)) = false := decide_eq_false (by have := HIV.out; omega)
      have q2 : (iv < (G.objs.length : Int)) = False := eq_false (by have := HIV.out; omega)
      have HWS : Aside0 (w.heap.size ≤ wr.heap.size) := ⟨HB.out.size⟩
      obtain ⟨ws, hws⟩ : ∃ ws, ws = wr.heap.size := ⟨_, rfl⟩
      have HWSE := Aside0.mk hws
      clear hi hg0 hft0 hlt HIV HI HG HFT hws
      go_upto_region 12 with (fail)
      clear q1 q2
      go_loopg [88] G.objs.length (fun kq v88 W => ∃ (i : Nat) (iv : Int) (H : GS), v88 = .int .i64 iv ∧ Aside0 (iv = (i : Int)) ∧ Aside0 (i ≤ G.objs.length ∧ G.objs.length - i ≤ kq) ∧ Aside0 (GraphAt W B H) ∧ Aside0 (LoadSt G i 0 H) ∧ Aside0 (Below w.heap.size w W))
      case atStart => exact ⟨0, 0, _, rfl, ⟨rfl⟩, ⟨by omega, by omega⟩, HGS, ⟨load_start HOK.out⟩, HB⟩
      case round =>
        obtain ⟨i2, iv2, H, rfl, HIV, HI, HG, HLS, HB2⟩ := hrel
        by_cases hlt : i2 < G.objs.length
        · obtain ⟨kn, rfl⟩ : ∃ kn, gk = kn + 1 := ⟨gk - 1, by have := HI.out; omega⟩
          obtain ⟨x, hx⟩ : ∃ x, G.objs[i2]? = some x := ⟨_, List.getElem?_eq_getElem hlt⟩
          have HX := Aside0.mk hx
          have HXM := Aside0.mk (List.mem_of_getElem? hx)
          obtain ⟨Ax, cx, hslx, x1, x2, x3, -⟩ := HND.out i2 x hx
          have y1 : wr.cell? ⟨g0, i2 * 3, none⟩ = some (.int .i64 x.1) := (HB2.out.cell (p := ⟨g0, i2 * 3, none⟩) HG0.out).trans x1
          have y2 : wr.cell? ⟨g0, i2 * 3 + 1, none⟩ = some (.int .i64 x.2.kind) := (HB2.out.cell (p := ⟨g0, i2 * 3 + 1, none⟩) HG0.out).trans x2
          have y3 : wr.cell? ⟨g0, i2 * 3 + 2, none⟩ = some (.slice Ax x.2.links.length cx) := (HB2.out.cell (p := ⟨g0, i2 * 3 + 2, none⟩) HG0.out).trans x3
          have HLR : Aside0 (w.ownsRow base 42 3 (.slice Ax x.2.links.length cx) x.2.links.length (cells3 x.2.links)) := ⟨by
            obtain ⟨sl', h1, h2, h3⟩ := HN.out
            obtain ⟨u, hu⟩ : ∃ u, sl'[i2]? = some u := ⟨_, List.getElem?_eq_getElem (by omega)⟩
            have h4 := h3 i2 x u hx hu
            obtain ⟨g', hg', -, hr⟩ := node_at h2 rfl hx hu
            obtain rfl : g0 = g' := by simpa using hg'
            have h5 := hr 2 _ rfl
            rw [x3] at h5
            obtain rfl := Option.some.inj h5
            exact h4⟩
          have HLT := Aside0.mk hlt
          have q1 : decide (iv2 < (G.objs.length : Int)) = true := decide_eq_true (by have := HIV.out; omega)
          have q2 : (iv2 < (G.objs.length : Int)) = True := eq_true (by have := HIV.out; omega)
          have q3 : (0 : Int) ≤ iv2 := by have := HIV.out; omega
          have q4 : iv2.toNat = i2 := by have := HIV.out; omega
          obtain ⟨xb, hxb⟩ : ∃ xb, xb = wr.heap.size := ⟨_, rfl⟩
          obtain ⟨W5, hW5⟩ : ∃ W5, W5 = wr.alloc (.cells #[.int .i64 x.1, .int .i64 x.2.kind, .slice Ax x.2.links.length cx] 50 (0, 0)) := ⟨_, rfl⟩
          have hb5 : Below wr.heap.size wr W5 := by rw [hW5]; exact below_alloc (Below.refl _ _) _
          have hx5 : W5.heap[xb]? = some (.cells #[.int .i64 x.1, .int .i64 x.2.kind, .slice Ax x.2.links.length cx] 50 (0, 0)) := by rw [hW5, hxb]; exact World.alloc_heap_new _ _
          have HXN : Aside0 (¬ foot B H xb) := ⟨fun hf => by have := HG.out.foot_lt hf; omega⟩
          have HW5 := Aside0.mk hW5
          have HX5 := Aside0.mk hx5
          have HXB := Aside0.mk hxb
          have HBW5 := Aside0.mk (HB2.out.trans (hb5.mono HB2.out.size))
          have HG5 := Aside0.mk (HG.out.below hb5)
          have w1_ : wrap64 (iv2 + 1) = iv2 + 1 := wrap_ok9 _ (by omega) (by have := HIV.out; have := HSZ.out; omega)
          clear x1 x2 x3 hslx hx hlt hxb hW5 hb5 hx5
          go_upto_region 14 with (fail)
          rw [← HW5.out, ← HXB.out]
          clear y1 y2 y3 q1
          have d2 : W5.cell? ⟨xb, 2, none⟩ = some (.slice Ax x.2.links.length cx) := (blk_cell HX5.out 2).trans rfl
          go_upto_region 15 with (fail)
          clear d2 q2 q3 q4
          go_loopg [95] x.2.links.length (fun kq v95 W => ∃ (j : Nat) (jv : Int) (H : GS), v95 = .int .i64 jv ∧ Aside0 (jv = (j : Int)) ∧ Aside0 (j ≤ x.2.links.length ∧ x.2.links.length - j ≤ kq) ∧ Aside0 (GraphAt W B H) ∧ Aside0 (LoadSt G i2 j H) ∧ Aside0 (Below w.heap.size w W) ∧ Aside0 (W.heap[xb]? = some (.cells #[.int .i64 x.1, .int .i64 x.2.kind, .slice Ax x.2.links.length cx] 50 (0, 0))))
          case atStart => exact ⟨0, 0, H, rfl, ⟨rfl⟩, ⟨by omega, by omega⟩, HG5, HLS, HBW5, HX5⟩
          case round =>
            obtain ⟨j, jv, H3, rfl, HJV, HJ, HG3, HLS3, HB3, HX3⟩ := hrel
            by_cases hjl : j < x.2.links.length
            · obtain ⟨k, hk⟩ : ∃ k, x.2.links[j]? = some k := ⟨_, List.getElem?_eq_getElem hjl⟩
              have HKM := Aside0.mk (List.mem_of_getElem? hk)
              obtain ⟨o, H4, hat, hput, hls4⟩ := load_link HOK.out HLS3.out HX.out hk
              have HRW := Aside0.mk (row_same HLR.out (SameOn.of_below (S := fun _ => True) HB3.out) (fun _ _ => trivial))
              obtain ⟨g5, hA5, -, hrg⟩ := link_at HRW.out rfl hk
              subst hA5
              have k0 : wr.cell? ⟨g5, j * 3, none⟩ = some (.string k.1) := hrg 0 _ rfl
              have k1 : wr.cell? ⟨g5, j * 3 + 1, none⟩ = some (.int .i64 k.2.1) := hrg 1 _ rfl
              have k2 : wr.cell? ⟨g5, j * 3 + 2, none⟩ = some (.string k.2.2) := hrg 2 _ rfl
              have HAT := Aside0.mk hat
              have HPUT := Aside0.mk hput
              have HLS4 := Aside0.mk hls4
              have HJL := Aside0.mk hjl
              have q1 : decide (jv < (x.2.links.length : Int)) = true := decide_eq_true (by have := HJV.out; omega)
              have q2 : (jv < (x.2.links.length : Int)) = True := eq_true (by have := HJV.out; omega)
              have q3 : (0 : Int) ≤ jv := by have := HJV.out; omega
              have q4 : jv.toNat = j := by have := HJV.out; omega
              have w2_ : wrap64 (jv + 1) = jv + 1 := wrap_ok9 _ (by omega) (by have := HJV.out; have := HOK.out.len HXM.out; omega)
              obtain ⟨yb, hyb⟩ : ∃ yb, yb = wr.heap.size := ⟨_, rfl⟩
              obtain ⟨W6, hW6⟩ : ∃ W6, W6 = wr.alloc (.cells #[.string k.1, .int .i64 k.2.1, .string k.2.2] 42 (0, 0)) := ⟨_, rfl⟩
              have hb6 : Below wr.heap.size wr W6 := by rw [hW6]; exact below_alloc (Below.refl _ _) _
              have hy6 : W6.heap[yb]? = some (.cells #[.string k.1, .int .i64 k.2.1, .string k.2.2] 42 (0, 0)) := by rw [hW6, hyb]; exact World.alloc_heap_new _ _
              have hx6 := (hb6.block _ (blk_lt HX3.out)).trans HX3.out
              have HW6 := Aside0.mk hW6
              have HY6 := Aside0.mk hy6
              have HX6 := Aside0.mk hx6
              have HYB := Aside0.mk hyb
              have HBW6 := Aside0.mk (HB3.out.trans (hb6.mono HB3.out.size))
              have hg6 := HG3.out.below hb6
              have HG6 := Aside0.mk hg6
              clear hk hat hput hls4 hrg hjl hyb hW6 hb6 hy6 hx6
              go_upto_region 17 with (fail)
              rw [← HW6.out, ← HYB.out]
              clear k0 k1 k2 q1 q2 q3 q4
              have e0 : W6.cell? ⟨yb, 0, none⟩ = some (.string k.1) := (blk_cell HY6.out 0).trans rfl
              have e1 : W6.cell? ⟨yb, 1, none⟩ = some (.int .i64 k.2.1) := (blk_cell HY6.out 1).trans rfl
              have e2 : W6.cell? ⟨yb, 2, none⟩ = some (.string k.2.2) := (blk_cell HY6.out 2).trans rfl
              have c1 : W6.cell? ⟨gb, 1, none⟩ = some (.map (some B.mb)) := by rw [← HBG.out]; exact hg6.c1
              have l1 := hg6.lookAt HAT.out
              have x0 : W6.cell? ⟨xb, 0, none⟩ = some (.int .i64 x.1) := (blk_cell HX6.out 0).trans rfl
              by_cases hpos : 0 < k.2.1
              case' pos =>
                have r1 : decide (0 < k.2.1) = true := decide_eq_true hpos
                obtain ⟨t, ht⟩ := (upto_has HLS3.out.shape k.2.1).2 (ok_closed HOK.out _ HXM.out k HKM.out hpos)
                have l2 : ∀ n, (Instr.lookup 71 (.map (some B.mb)) (.int .i64 k.2.1) false).run Tryz.prog (W6.drewN n) = .ok (.pointer (some ⟨B.ob k.2.1, 0, none⟩)) (W6.drewN n) := fun n => (hg6.below (below_dn W6 n)).lookAt (HLS3.out.ok.obj ht)
                clear ht hpos
                go_big_quiet (fail)
                go_upto_region 19 with (fail)
                clear r1 l2
              case' neg =>
                have r1 : decide (0 < k.2.1) = false := decide_eq_false hpos
                clear hpos
                go_big_quiet (fail)
                go_upto_region 19 with (fail)
                clear r1
              all_goals
                obtain ⟨W7, hW7⟩ : ∃ W7, W7 = W6.drewN nq := ⟨_, rfl⟩
                have hb7 : Below W6.heap.size W6 W7 := by rw [hW7]; exact below_dn _ _
                have HW7 := Aside0.mk hW7
                rw [← hW7]
                have hb7d : Below W6.heap.size W6 W7.drew := hb7.trans ((below_drew (Below.refl _ _)).mono hb7.size)
                have HB7D := Aside0.mk hb7d
                have hg7 : GraphAt W7.drew B H3 := hg6.below hb7d
                have hs0 : k.1.size ≤ 64 := by
                  have h1 := (HOK.out.lk _ HXM.out k HKM.out).1
                  unfold goodName at h1
                  simp only [Bool.and_eq_true, decide_eq_true_eq] at h1
                  exact h1.1.1.1.2
                have HS0 := Aside0.mk hs0
                have hS : W7.drew.cell? ⟨gb, 1, none⟩ = some (.map (some B.mb)) ∧ W7.drew.cell? ⟨xb, 0, none⟩ = some (.int .i64 x.1) ∧ (Instr.lookup 71 (.map (some B.mb)) (.int .i64 x.1) false).run Tryz.prog W7.drew = .ok (.pointer (some ⟨B.ob x.1, 0, none⟩)) W7.drew ∧ W7.drew.cell? ⟨yb, 0, none⟩ = some (.string k.1) ∧ W7.drew.cell? ⟨yb, 1, none⟩ = some (.int .i64 k.2.1) ∧ W7.drew.cell? ⟨yb, 2, none⟩ = some (.string k.2.2) ∧ GraphAt W7.drew B H3 ∧ Below W6.heap.size W6 W7.drew :=
                  ⟨(hb7d.cell (World.block_lt_of_cell? _ _ c1)).trans c1, (hb7d.cell (World.block_lt_of_cell? _ _ x0)).trans x0, hg7.lookAt HAT.out, (hb7d.cell (World.block_lt_of_cell? _ _ e0)).trans e0, (hb7d.cell (World.block_lt_of_cell? _ _ e1)).trans e1, (hb7d.cell (World.block_lt_of_cell? _ _ e2)).trans e2, hg7, hb7d⟩
                clear hW7 hb7 hb7d hg6 hg7 hs0 c1 x0 e0 e1 e2 l1
                refine start_ (n := 10) (S := fun W' => W'.cell? ⟨gb, 1, none⟩ = some (.map (some B.mb)) ∧ W'.cell? ⟨xb, 0, none⟩ = some (.int .i64 x.1) ∧ (Instr.lookup 71 (.map (some B.mb)) (.int .i64 x.1) false).run Tryz.prog W' = .ok (.pointer (some ⟨B.ob x.1, 0, none⟩)) W' ∧ W'.cell? ⟨yb, 0, none⟩ = some (.string k.1) ∧ W'.cell? ⟨yb, 1, none⟩ = some (.int .i64 k.2.1) ∧ W'.cell? ⟨yb, 2, none⟩ = some (.string k.2.2) ∧ GraphAt W' B H3 ∧ Below W6.heap.size W6 W') (ds := [9]) #[false, false, false, false, false, false, false, false, false, false] (by kernel_rfl) rfl rfl hS (fun hHeld => ?_)
                refine pure_ (i := 0) (N := some 112) (v := ?_) (a' := ?_) #[true, false, false, false, false, false, false, false, false, false] rfl rfl (by kernel_rfl) (fun _ _ _ h => h) (Or.inl ⟨by rfl, ?_⟩) ?_ ?_
                rotate_left
                · intro w'
                  go_simp
                  with_reducible rfl
                rotate_left
                · simp only [Act.put, List.setIfInBounds_toArray, List.set_cons_zero, List.set_cons_succ, i64_w, i32_w]
                  rfl
                refine pure_ (i := 1) (N := some 113) (v := ?_) (a' := ?_) #[true, true, false, false, false, false, false, false, false, false] rfl rfl (by kernel_rfl) (fun _ _ _ h => h) (Or.inl ⟨by rfl, ?_⟩) ?_ ?_
                rotate_left
                · intro w'
                  go_simp
                  with_reducible rfl
                rotate_left
                · simp only [Act.put, List.setIfInBounds_toArray, List.set_cons_zero, List.set_cons_succ, i64_w, i32_w]
                  rfl
                refine pure_ (i := 2) (N := some 114) (v := ?_) (a' := ?_) #[true, true, true, false, false, false, false, false, false, false] rfl rfl (by kernel_rfl) (fun _ _ _ h => h) (Or.inl ⟨by rfl, ?_⟩) ?_ ?_
                rotate_left
                · intro w'
                  go_simp
                  with_reducible rfl
                rotate_left
                · simp only [Act.put, List.setIfInBounds_toArray, List.set_cons_zero, List.set_cons_succ, i64_w, i32_w]
                  rfl
                refine pure_ (i := 3) (N := some 115) (v := ?_) (a' := ?_) #[true, true, true, true, false, false, false, false, false, false] rfl rfl (by kernel_rfl) (fun _ _ _ h => h) (Or.inl ⟨by rfl, ?_⟩) ?_ ?_
                rotate_left
                · intro w'
                  go_simp
                  with_reducible rfl
                rotate_left
                · simp only [Act.put, List.setIfInBounds_toArray, List.set_cons_zero, List.set_cons_succ, i64_w, i32_w]
                  rfl
                refine take_ (i := 4) (N := some 116) (v := ?_) (a' := ?_) #[true, true, true, true, true, false, false, false, false, false] rfl rfl (by kernel_rfl) (fun _ _ _ h => h) (Or.inl ⟨by rfl, ?_⟩) hHeld ?_ ?_
                rotate_left
                · rintro w' ⟨s1_, s2_, s3_, s4_, s5_, s6_, s7_, s8_⟩
                  go_simp
                  with_reducible rfl
                rotate_left
                · simp only [Act.put, List.setIfInBounds_toArray, List.set_cons_zero, List.set_cons_succ, i64_w, i32_w]
                  rfl
                refine pure_ (i := 5) (N := some 117) (v := ?_) (a' := ?_) #[true, true, true, true, true, true, false, false, false, false] rfl rfl (by kernel_rfl) (fun _ _ _ h => h) (Or.inl ⟨by rfl, ?_⟩) ?_ ?_
                rotate_left
                · intro w'
                  go_simp
                  with_reducible rfl
                rotate_left
                · simp only [Act.put, List.setIfInBounds_toArray, List.set_cons_zero, List.set_cons_succ, i64_w, i32_w]
                  rfl
                refine take_ (i := 6) (N := some 118) (v := ?_) (a' := ?_) #[true, true, true, true, true, true, true, false, false, false] rfl rfl (by kernel_rfl) (fun _ _ _ h => h) (Or.inl ⟨by rfl, ?_⟩) hHeld ?_ ?_
                rotate_left
                · rintro w' ⟨s1_, s2_, s3_, s4_, s5_, s6_, s7_, s8_⟩
                  go_simp
                  with_reducible rfl
                rotate_left
                · simp only [Act.put, List.setIfInBounds_toArray, List.set_cons_zero, List.set_cons_succ, i64_w, i32_w]
                  rfl
                refine take_ (i := 7) (N := some 119) (v := ?_) (a' := ?_) #[true, true, true, true, true, true, true, true, false, false] rfl rfl (by kernel_rfl) (fun _ _ _ h => h) (Or.inl ⟨by rfl, ?_⟩) hHeld ?_ ?_
                rotate_left
                · rintro w' ⟨s1_, s2_, s3_, s4_, s5_, s6_, s7_, s8_⟩
                  go_simp
                  with_reducible rfl
                rotate_left
                · simp only [Act.put, List.setIfInBounds_toArray, List.set_cons_zero, List.set_cons_succ, i64_w, i32_w]
                  rfl
                refine take_ (i := 8) (N := some 120) (v := ?_) (a' := ?_) #[true, true, true, true, true, true, true, true, true, false] rfl rfl (by kernel_rfl) (fun _ _ _ h => h) (Or.inl ⟨by rfl, ?_⟩) hHeld ?_ ?_
                rotate_left
                · rintro w' ⟨s1_, s2_, s3_, s4_, s5_, s6_, s7_, s8_⟩
                  go_simp
                  with_reducible rfl
                rotate_left
                · simp only [Act.put, List.setIfInBounds_toArray, List.set_cons_zero, List.set_cons_succ, i64_w, i32_w]
                  rfl
                have hcp := put_calls B H3 x.1 o k _ hHeld.2.2.2.2.2.2.1 HAT.out HS0.out H4 HPUT.out
                rw [HBG.out] at hcp
                have HCP := Aside0.mk hcp
                clear hcp
                refine last_ (i := 9) (N := some 121) #[true, true, true, true, true, true, true, true, true, true] rfl rfl (by kernel_rfl) (by decide) (fun K hK => ?_)
                skip
                refine goes_ Tryz.func42 (by kernel_rfl) rfl #[.pointer (some ⟨gb, 0, none⟩), .pointer (some ⟨B.ob x.1, 0, none⟩), .agg #[.string k.1, .int .i64 k.2.1, .string k.2.2]] (by rfl) rfl rfl (by (simp only [List.map_toArray, List.map_cons, List.map_nil]); rfl) ?_
                refine HCP.out.mono ?_
                rintro e_ w8 ⟨rfl, hg8, hs8⟩
                refine ⟨_, rfl, ?_⟩
                refine hK.out _ _ ?_
                clear hK K
                refine norm_ (a' := ?_) ?_ ?_
                rotate_left
                · show Act.put _ (some 121) _ = _
                  simp only [Act.put, List.setIfInBounds_toArray, List.set_cons_zero, List.set_cons_succ, i64_w, i32_w]
                  rfl
                refine done_ (by kernel_rfl) ?_
                have HG8 := Aside0.mk hg8
                have HS8 := Aside0.mk hs8
                clear hHeld hS hg8 hs8
                go_wp2
                go_roundg (gk - 1)
                case measure => have := HJ.out; have := HJL.out; omega
                case rel =>
                  have hb : Below w.heap.size w W7.drew := HBW6.out.trans (HB7D.out.mono HBW6.out.size)
                  refine ⟨j + 1, jv + 1, H4, by first | rfl | rw [w2_], ⟨by have := HJV.out; omega⟩, ⟨by have := HJL.out; omega, by have := HJ.out; omega⟩, HG8, HLS4, ⟨?_⟩, ⟨?_⟩⟩
                  · exact hb.trans (HS8.out.below (fun q hq hfq => by have := HFT0.out q (foot_has hfq (fun id hid => has_empty.2 ((upto_has HLS3.out.shape id).1 hid))); omega) hb.size)
                  · refine (HS8.out.same xb (fun hfq => HXN.out (foot_has hfq (fun id hid => (upto_has HLS.out.shape id).2 ((upto_has HLS3.out.shape id).1 hid)))) ?_).trans ((HB7D.out.block xb (blk_lt HX6.out)).trans HX6.out)
                    exact Nat.lt_of_lt_of_le (blk_lt HX6.out) HB7D.out.size
            · have hjn : j = x.2.links.length := by have := HJ.out; omega
              have HLSN : Aside0 (LoadSt G (i2 + 1) 0 H3) := ⟨load_node HX.out (hjn ▸ HLS3.out)⟩
              have q1 : decide (jv < (x.2.links.length : Int)) = false := decide_eq_false (by have := HJV.out; omega)
              have q2 : (jv < (x.2.links.length : Int)) = False := eq_false (by have := HJV.out; omega)
              clear hjn hjl
              go_wp2
              go_roundg kn
              case measure => omega
              case rel => exact ⟨i2 + 1, iv2 + 1, H3, by first | rfl | rw [w1_], ⟨by have := HIV.out; omega⟩, ⟨by have := HLT.out; omega, by have := HI.out; omega⟩, HG3, HLSN, HB3⟩
        · have hi2 : i2 = G.objs.length := by have := HI.out; omega
          have hHG : H = G := load_end HOK.out HF.out (hi2 ▸ HLS.out)
          subst hHG
          have q1 : decide (iv2 < (H.objs.length : Int)) = false := decide_eq_false (by have := HIV.out; omega)
          have q2 : (iv2 < (H.objs.length : Int)) = False := eq_false (by have := HIV.out; omega)
          have c2 : wr.cell? ⟨gb, 2, none⟩ = some (.int .i64 H.count) := by rw [← HBG.out]; exact HG.out.c2
          have r1 : decide (256 < H.count) = false := decide_eq_false (by have := HOK.out.count; have := HOK.out.links; omega)
          have hre := (reached_calls B H wr HG.out (ok_closed HOK.out) (by obtain ⟨o, ho, -⟩ := HOK.out.root; exact ⟨o, ho⟩) (by have := HSZ.out; omega) (fun y hy => by have := HOK.out.len hy; unfold bound; omega))
          rw [HBG.out] at hre
          have HRE := Aside0.mk hre
          clear hre
          clear hi2 hlt
          go_upto_region 22 with (fail)
          clear q1 q2
          go_upto_region 24 with (go_at_call 52; refine HRE.out.mono ?_; rintro e_ w9 ⟨sb, S, rfl, -, hse, hasc, hall, hb9⟩; have HB9 := Aside0.mk hb9; have hln : ∀ ty, (Builtin.len_ #[100] ty #[.map (some sb)]).run Tryz.prog w9 = .ok (.int .i64 (H.objs.length : Int)) w9 := (fun ty => seen_run hse (seen_full HOK.out hasc hall HRCH.out) ty); clear hse hasc hall hb9)
          clear hln c2 r1
          have hg9 : GraphAt w9 B H := HG.out.below HB9.out
          have HG9 := Aside0.mk hg9
          have c1 : w9.cell? ⟨gb, 1, none⟩ = some (.map (some B.mb)) := by rw [← HBG.out]; exact hg9.c1
          obtain ⟨w10, hrr, hrg0, hgr0, hsz0⟩ := hg9.objs.range (t := 71) (e := 75) (int_keyed Tryz.underlying3) Tryz.underlying71
          have hb10 : Below w9.heap.size w9 w10 := (Below.refl _ _).grown hgr0 (Nat.le_refl _) (fun k hk => by cases hk)
          have HB10 := Aside0.mk hb10
          have HRG0 := Aside0.mk hrg0
          have HMS : Aside0 (Maps.size (DataW.map (H := Unit) (H.objs.map (encO B.ob))) = H.objs.length) := ⟨by simp [Maps.size]⟩
          obtain ⟨rb, hrb⟩ : ∃ rb, rb = w9.heap.size := ⟨_, rfl⟩
          rw [← hrb] at hrr
          have HRB := Aside0.mk hrb
          clear hrg0 hgr0 hsz0 hb10 hg9 hrb
          go_upto_region 25 with (fail)
          clear hrr c1
          go_loopg [] H.objs.length (fun kq W => ∃ (left : Lit → Bool) (cnt : Nat), Aside0 (W.ranges Tryz.prog 3 readP B.mb rb H.objs.length (.map (H.objs.map (encO B.ob))) left cnt) ∧ Aside0 (cnt ≤ kq) ∧ Aside0 (Below w9.heap.size w9 W))
          case atStart => exact ⟨_, _, ⟨HRB.out ▸ HRG0.out⟩, ⟨by rw [HMS.out]; exact Nat.le_refl _⟩, HB10⟩
          case round =>
            obtain ⟨left, cnt, HR, HC, HBR⟩ := hrel
            rcases HR.out.next (int_keyed Tryz.underlying3) 0 with ⟨h0, -, hrun⟩ | ⟨key, v, kl, y, w', cnt', hkey, -, hv, hat, hrun, hrg', hlt', hgr, hsz, hen⟩
            · have hnx : ∀ ty, (Instr.next (.pointer (some ⟨rb, 0, none⟩)) false ty).run Tryz.prog wr = .ok (.tuple #[.bool false]) wr := fun _ => hrun
              clear hrun
              go_wp2
              go_ret2
              exact ⟨B, by rw [HBG.out]; rfl, HG9.out.below HBR.out, fun q hq => HFT0.out q (foot_has hq (fun id hid => has_empty.2 hid)), HB2.out.trans ((HB9.out.trans (HBR.out.mono HB9.out.size)).mono HB2.out.size)⟩
            · obtain ⟨id, rfl, rfl, hwf⟩ := Maps.keyOf_int_inv Tryz.underlying3 hkey
              have hat' : ∀ zd, (match H.at id with | some _ => DataW.lit (Lit.int .i64 (B.ob id : Int)) | none => zd) = y.1 := fun zd => (atKey_O B.ob H id zd).symm.trans (hat zd)
              cases ho : H.at id with
              | none =>
                rw [ho] at hat'
                have h1 := hat' .nil
                have h2 := hat' (.lit (.int .i64 0))
                rw [← h1] at h2
                cases h2
              | some o =>
                rw [ho] at hat'
                obtain ⟨y1, y2⟩ := y
                have h1 := hat' .nil
                simp only at h1
                subst h1
                obtain rfl := readP_inv hv
                have hom := at_mem ho
                have hgw : GraphAt w' B H := HG9.out.below (HBR.out.grown hgr HBR.out.size (fun k hk => by cases hk; have := HRB.out; omega))
                have o0 : w'.cell? ⟨B.ob id, 0, none⟩ = some (.int .i64 o.kind) := (hgw.obj ho).c0
                have o2 : w'.cell? ⟨B.ob id, 2, none⟩ = some (.int .i64 o.leads) := (hgw.obj ho).c2
                have hnx : ∀ ty, (Instr.next (.pointer (some ⟨rb, 0, none⟩)) false ty).run Tryz.prog wr = .ok (.tuple #[.bool true, .int .i64 id, .pointer (some ⟨B.ob id, 0, none⟩)]) w' := fun _ => hrun
                have HRG' := Aside0.mk hrg'
                have HLT' := Aside0.mk hlt'
                have HBR' : Aside0 (Below w9.heap.size w9 w') := ⟨HBR.out.grown hgr HBR.out.size (fun k hk => by cases hk; have := HRB.out; omega)⟩
                have HOM := Aside0.mk hom
                clear hrun hkey hv hat hat' hrg' hlt' hgr hsz hgw ho hom
                by_cases hid : id = 1
                case' pos =>
                  have i1 : (id != 1) = false := by simpa using hid
                  clear hid
                  go_wp2
                case' neg =>
                  have i1 : (id != 1) = true := by simpa using hid
                  rcases HOK.out.kind _ HOM.out with hkd | ⟨hkd, -⟩
                  case' inl =>
                    have hl1 : o.leads = 1 := by
                      have h2 := HOK.out.ones _ HOM.out hkd
                      have h3 := HREST.out _ HOM.out
                      simp only at h2 h3
                      omega
                    simp only at hkd
                    rw [hkd] at o0
                    rw [hl1] at o2
                    clear hid hkd hl1
                    go_wp2
                  case' inr =>
                    simp only at hkd
                    rw [hkd] at o0
                    clear hid hkd
                    go_wp2
                all_goals
                  go_roundg (gk - 1)
                  case measure => have := HC.out; have := HLT'.out; omega
                  case rel => exact ⟨_, cnt', HRG', ⟨by have := HC.out; have := HLT'.out; omega⟩, HBR'⟩
end
end Go.Proofs.YthifdofdoeaemaaGreatDoor.Wk
end
section
namespace Go.Proofs.YthifdofdoeaemaaGreatDoor.Wk
open Go.RowKit Go.Proofs.YthifdofdoeaemaaGreatDoorW.PrintWords Go.Proofs.YthifdofdoeaemaaGreatDoorW.PrintLast Go.Proofs.YthifdofdoeaemaaGreatDoorW.PrintMore
attribute [local go_sem] max2_int min2_int max_two min_two max_three min_three max_four min_four
set_option linter.unusedVariables false
set_option linter.unusedSimpArgs false
section
open Go.RowKit Go.Lib Go.Maps Go.Proofs.YthifdofdoeaemaaGreatDoorQ
attribute [local go_sem] Oper.semAt_some
theorem acyc_played10 {acts : List ActD} {G : GS} (h : playG newG (acts.take 60) = some G) : Acyc G := acyc_all _ 0 newG G play_new (by have := List.length_take (i := 60) (l := acts); omega) acyc_new h
theorem play_lead {m : Nat} {G : GS} (h : Play m G) : ∀ x ∈ G.objs, x.1 = 1 ∨ 0 < x.2.leads := fun x hx => by
  have h1 := h.rest x hx
  have h2 := h.free x hx
  omega
theorem unlink_len {n : Nat} {G G2 : GS} {p : ByteArray} {r : List Int} {e : Int} (h : unlinkG n G p = some (r, e, G2)) : r.length ≤ bound := by
  unfold unlinkG at h
  split at h
  · cases h
  · split at h
    · split at h
      · cases h
      · split at h
        · split at h
          · cases h
          · split at h
            · rename_i c hc hb
              obtain ⟨rfl, -⟩ : sortI c.1 = r ∧ True := by simpa using And.intro (congrArg (fun q => q.map (fun z => z.1)) h) trivial
              unfold sortI
              rw [List.length_mergeSort]
              exact hb
            · cases h
        · cases h; exact Nat.zero_le _
    · cases h; exact Nat.zero_le _
theorem reach_mine {w0 w : World} {g : Nat} {F : Nat → Prop} {G : GS} (h : Mine w0 w g F G) (hok : Ok G) (hall : ∀ x ∈ G.objs, Rch G x.1) :
    Calls Tryz.prog 32 #[.pointer (some ⟨g, 0, none⟩)] w fun ev w' => ∃ v, ev = .returned v ∧ NodesAt w' w.heap.size v G.objs ∧ Below w.heap.size w w' := by
  obtain ⟨B, rfl, h2, -⟩ := h
  refine reach_all B G w h2 (ok_closed hok) hall ?_ (by have := hok.size; omega) (fun x hx => by have := hok.len hx; unfold bound; omega)
  obtain ⟨o, ho, -⟩ := hok.root
  exact ⟨o, ho⟩
theorem load_mine {w0 w : World} (hb : Below w0.heap.size w0 w) (hl : Lay w0) {m : Nat} {G : GS} (hp : Play m G) (hm : m ≤ 900) (hall : ∀ x ∈ G.objs, Rch G x.1) {base : Nat} {v : Value} (hn : NodesAt w base v G.objs) :
    Calls Tryz.prog 28 #[.int .i64 G.next, v] w fun ev w' => ∃ g F, ev = .returned (.tuple #[.pointer (some ⟨g, 0, none⟩), .int .i64 0]) ∧ Mine w0 w' g F G ∧ (∀ k, F k → w.heap.size ≤ k) ∧ Below w.heap.size w w' := by
  refine (load_good G hp.ok hp.free (play_lead hp) hall (by have := hp.next; omega) w (lay_below hl hb) base v hn).mono ?_
  rintro ev w' ⟨B, rfl, hG, hf, hb2⟩
  have hz := hb.size
  exact ⟨B.g, foot B G, rfl, ⟨B, rfl, hG, fun k hk => hk, fun k hk => ⟨by have := hf k hk; omega, hG.foot_lt hk⟩, hb.trans (hb2.mono hz)⟩, hf, hb2⟩
set_option maxHeartbeats 8000000 in
set_option maxRecDepth 100000 in
theorem law10_calls (A : Option Addr) (c : Nat) (acts : List ActD) (p : ByteArray) (w : World) (hl : Lay w) (hr : ActRow w A acts) (hc : acts.length ≤ c) :
    Calls Tryz.prog 10 #[.slice A acts.length c, .string p] w fun e w' => e = .returned (.bool true) ∧ Below w.heap.size w w' := by
  have HL := Aside0.mk hl
  have HR := Aside0.mk hr
  clear hl hr
  go_enter Tryz.func10, Tryz.ntmps10
  go_upto_region 2 with (go_at_call 19; refine (played_calls A c acts _ HL.out HR.out hc).mono ?_; rintro e_ w1 ⟨g, F, G, rfl, hm, hpg, hpl⟩; have HM1 := Aside0.mk hm; have HPL := Aside0.mk hpl; have HAC := Aside0.mk (acyc_played10 hpg); clear hm hpl hpg)
  have HALL := Aside0.mk (all_reached HPL.out.ok (play_lead HPL.out) HAC.out)
  have HLB : Aside0 (∀ x ∈ G.objs, x.2.links.length ≤ bound) := ⟨fun x hx => by have := HPL.out.ok.len hx; unfold bound; omega⟩
  have HN0 : Aside0 (0 < G.objs.length ∧ G.objs.length ≤ bound) := ⟨by obtain ⟨h0, -⟩ := first_root HPL.out.ok; have := HPL.out.ok.size; unfold bound; omega⟩
  go_upto_region 3 with (go_at_call 32; refine (reach_mine HM1.out HPL.out.ok HALL.out).mono ?_; rintro e_ w2 ⟨v2, rfl, hn2, hb2⟩; have HN2 := Aside0.mk hn2; have HM2 := Aside0.mk (HM1.out.step hb2); clear hn2 hb2)
  go_upto_region 4 with (first
    | (go_at_call 24; refine (next_mine HM2.out).mono ?_; rintro e_ w3 ⟨rfl, h0⟩; obtain rfl := h0.symm)
    | (go_at_call 28; refine (load_mine HM2.out.below HL.out HPL.out (by omega) HALL.out HN2.out).mono ?_; rintro e_ w4 ⟨gh, Fh, rfl, hmh, hfh, hb4⟩; have HH4 := Aside0.mk hmh; have HFH := Aside0.mk hfh; have HM4 := Aside0.mk (HM2.out.step hb4); have HN4 := Aside0.mk (HN2.out.below hb4); clear hmh hfh hb4))
  have HDIS : Aside0 (∀ k, F k → ¬ Fh k) := ⟨fun k h1 h2 => by have := (HM2.out.lt h1).2; have := HFH.out k h2; omega⟩
  go_upto_region 6 with (first
    | (go_at_call_of 23 (Value.pointer (some (⟨g, 0, none⟩ : Addr))); refine (nodes_mine HM4.out HPL.out.ok).mono ?_; rintro e_ w5 ⟨v5, rfl, hn5, hb5⟩; have HN5 := Aside0.mk hn5; have HL5 := Aside0.mk (HN4.out.below hb5); have HM5 := Aside0.mk (HM4.out.step hb5); have HH5 := Aside0.mk (HH4.out.step hb5); clear hn5 hb5)
    | (go_at_call_of 30 v5; refine (nodes_same _ _ _ _ _ _ HL5.out HN5.out HN0.out.1 HN0.out.2 HLB.out).mono ?_; rintro e_ w6 ⟨rfl, m6, hw6⟩; have hb6 := below_dn2 w5 m6; rw [← hw6] at hb6; have HL6 := Aside0.mk (HL5.out.below hb6); have HM6 := Aside0.mk (HM5.out.step hb6); have HH6 := Aside0.mk (HH5.out.step hb6); clear hb6 hw6)
    | (go_at_call_of 23 (Value.pointer (some (⟨gh, 0, none⟩ : Addr))); refine (nodes_mine HH6.out HPL.out.ok).mono ?_; rintro e_ w7 ⟨v7, rfl, hn7, hb7⟩; have HN7 := Aside0.mk hn7; have HL7 := Aside0.mk (HL6.out.below hb7); have HM7 := Aside0.mk (HM6.out.step hb7); have HH7 := Aside0.mk (HH6.out.step hb7); clear hn7 hb7)
    | (go_at_call_of 30 v7; refine (nodes_same _ _ _ _ _ _ HN7.out HL7.out HN0.out.1 HN0.out.2 HLB.out).mono ?_; rintro e_ w8 ⟨rfl, m8, hw8⟩; have hb8 := below_dn2 w7 m8; rw [← hw8] at hb8; have HM8 := Aside0.mk (HM7.out.step hb8); have HH8 := Aside0.mk (HH7.out.step hb8); clear hb8 hw8)
    | (go_at_call_of 24 (Value.pointer (some (⟨gh, 0, none⟩ : Addr))); refine (next_mine HH8.out).mono ?_; rintro e_ w9 ⟨rfl, h0⟩; obtain rfl := h0.symm)
    | (go_at_call_of 24 (Value.pointer (some (⟨g, 0, none⟩ : Addr))); refine (next_mine HM8.out).mono ?_; rintro e_ w10 ⟨rfl, h0⟩; obtain rfl := h0.symm))
  obtain ⟨id, e, G2, hadd, hpl2⟩ := play_add HPL.out (by omega) p 2
  obtain ⟨r, e2, G3, hun, hpl3⟩ := play_unlink hpl2 p
  have HADD := Aside0.mk hadd
  have HUN := Aside0.mk hun
  have HPL3 := Aside0.mk hpl3
  have HLB3 : Aside0 (∀ x ∈ G3.objs, x.2.links.length ≤ bound) := ⟨fun x hx => by have := hpl3.ok.len hx; unfold bound; omega⟩
  have HN3 : Aside0 (0 < G3.objs.length ∧ G3.objs.length ≤ bound) := ⟨by obtain ⟨h0, -⟩ := first_root hpl3.ok; have := hpl3.ok.size; unfold bound; omega⟩
  have HRL := Aside0.mk (unlink_len hun)
  clear hadd hun hpl2 hpl3
  go_upto_region 7 with (go_at_call 16; refine (add_mine HM8.out HL.out p 2 HADD.out).mono ?_; rintro e_ wa ⟨rfl, Fa, hma, -, hfa2, hsa⟩; have HMa := Aside0.mk hma; have HSa := Aside0.mk hsa; have HFa := Aside0.mk hfa2; clear hma hfa2 hsa)
  have HHa : Aside0 (Mine w wa gh Fh G) := ⟨HH8.out.same HSa.out (fun k hk hf => HDIS.out k hf hk) (fun k hk hf => by have := (HM8.out.lt hf).1; omega)⟩
  have HDa : Aside0 (∀ k, Fa k → ¬ Fh k) := ⟨fun k h1 h2 => by
    rcases HFa.out k h1 with h | h
    · exact HDIS.out k h h2
    · have := (HH8.out.lt h2).2; omega⟩
  go_upto_region 8 with (go_at_call 16; refine (add_mine HHa.out HL.out p 2 HADD.out).mono ?_; rintro e_ wb ⟨rfl, Fb, hmb, -, hfb2, hsb⟩; have HHb := Aside0.mk hmb; have HSb := Aside0.mk hsb; have HFb := Aside0.mk hfb2; clear hmb hfb2 hsb)
  have HMb : Aside0 (Mine w wb g Fa G2) := ⟨HMa.out.same HSb.out (fun k hk hf => HDa.out k hk hf) (fun k hk hf => by have := (HHa.out.lt hf).1; omega)⟩
  have HDb : Aside0 (∀ k, Fa k → ¬ Fb k) := ⟨fun k h1 h2 => by
    rcases HFb.out k h2 with h | h
    · exact HDa.out k h1 h
    · have := (HMa.out.lt h1).2; omega⟩
  go_upto_region 9 with (go_at_call 18; refine (unlink_mine HMb.out HL.out 300 p HUN.out).mono ?_; rintro e_ wc ⟨vc, rfl, hrc, hmc, hsc⟩; have HRc := Aside0.mk hrc; have HMc := Aside0.mk hmc; have HSc := Aside0.mk hsc; clear hrc hmc hsc)
  have HHc : Aside0 (Mine w wc gh Fb G2) := ⟨HHb.out.same HSc.out (fun k hk hf => HDb.out k hf hk) (fun k hk hf => by have := (HMb.out.lt hf).1; omega)⟩
  go_upto_region 10 with (go_at_call 18; refine (unlink_mine HHc.out HL.out 300 p HUN.out).mono ?_; rintro e_ wd ⟨vd, rfl, hrd, hmd, hsd⟩; have HRd := Aside0.mk hrd; have HHd := Aside0.mk hmd; have HSd := Aside0.mk hsd; clear hrd hmd hsd)
  have HMd : Aside0 (Mine w wd g Fa G3) := ⟨HMc.out.same HSd.out (fun k hk hf => HDb.out k hk hf) (fun k hk hf => by have := (HHc.out.lt hf).1; omega)⟩
  have HRe : Aside0 (wd.ownsRow wb.heap.size 3 1 vc r.length (r.map (.int .i64))) := ⟨row_same HRc.out HSd.out (fun k hk hf => by have := (HRc.out.lt k hk).1; have := (HHb.out.lt hf).2; omega)⟩
  go_wp2_with (first
    | (go_at_call 33; refine (ints_calls _ _ vc vd r r _ HRe.out HRd.out (by have := HRL.out; unfold bound at this; omega)).mono ?_; rintro e_ we ⟨he, hbe⟩; rw [decide_eq_true (rfl : r = r)] at he; subst he; have HMe := Aside0.mk (HMd.out.step hbe); have HHe := Aside0.mk (HHd.out.step hbe); clear hbe)
    | (go_at_call_of 23 (Value.pointer (some (⟨g, 0, none⟩ : Addr))); refine (nodes_mine HMe.out HPL3.out.ok).mono ?_; rintro e_ wf ⟨vf, rfl, hnf, hbf⟩; have HNf := Aside0.mk hnf; have HMf := Aside0.mk (HMe.out.step hbf); have HHf := Aside0.mk (HHe.out.step hbf); clear hnf hbf)
    | (go_at_call_of 23 (Value.pointer (some (⟨gh, 0, none⟩ : Addr))); refine (nodes_mine HHf.out HPL3.out.ok).mono ?_; rintro e_ wg ⟨vg, rfl, hng, hbg⟩; have HNg := Aside0.mk hng; have HNfg := Aside0.mk (HNf.out.below hbg); have HMg := Aside0.mk (HMf.out.step hbg); clear hng hbg)
    | (go_at_call 30; refine (nodes_same _ _ _ _ _ _ HNfg.out HNg.out HN3.out.1 HN3.out.2 HLB3.out).mono ?_; rintro e_ wh ⟨rfl, mh, hwh⟩; have hbh := below_dn2 wg mh; rw [← hwh] at hbh; have HMh := Aside0.mk (HMg.out.step hbh); clear hbh hwh)
    | (go_at_call 14; refine (lives_calls _ (HMh.out.lay HL.out)).mono ?_; rintro e_ wi ⟨rfl, hbi⟩; have HBi := Aside0.mk hbi; clear hbi))
  go_ret
  exact ⟨rfl, HMh.out.below.trans (HBi.out.mono HMh.out.below.size)⟩
end
end Go.Proofs.YthifdofdoeaemaaGreatDoor.Wk
end
