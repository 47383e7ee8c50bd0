-- Texts that the row GraphLoads leans on, joined by wip/tools/mkclaim.py: GRNodes, GRObj, GRReach2, GSame2, GAlike, GRLoad, GLawLoads
import Derived.Test.YthifdofdoeaemaaGreatDoorCGraphLoads4
import Derived.Test.YthifdofdoeaemaaGreatDoorProg
import Derived.Below
import Derived.Deep.Draws
import Derived.Deep.AppendLies
import Derived.Maps.AppendAt
import Derived.OwnWalk
import Derived.Laws.BytesArg
import Derived.Laws.MakeOwn
import Derived.Laws.OwnMore
import Derived.Deep.OwnRows
import Derived.Tactics
import Derived.Lib.ConvBytes
import Derived.Laws.Slices
import Derived.WalkKit
import Derived.KernelRfl
import Derived.RowKit3
import Derived.Deep.LoopGhost
import Derived.Deep.QuietTactic
import Derived.BigQuiet
import Derived.WideLaws
import Derived.Deep.DeepCutAuto
import Derived.Deep.CutBlock
import Derived.Deep.RegionHeld3
import Derived.Laws.Rows
import Derived.Lib.AppendStr
import Derived.ArgAppend
import Derived.Laws.IdiomCopy
import Derived.OrdersHeld
import Derived.Laws.BitsLemmas
import Derived.RowKit
import Derived.WalkSpells
import Derived.Sort.LoopGhostIn
import Derived.Sort.CutIn
import Derived.Shelf.Abstract
import Derived.Shelf.RegionOpen
import Derived.OwnWalkIn
import Derived.TacticsInMore
import Derived.LoopNIn
import Derived.LoopIn
section
namespace Go.Proofs.YthifdofdoeaemaaGreatDoor.Wk
open Go.RowKit Go.Proofs.YthifdofdoeaemaaGreatDoorW.PrintWords Go.Proofs.YthifdofdoeaemaaGreatDoorW.PrintLast Go.Proofs.YthifdofdoeaemaaGreatDoorW.PrintMore
attribute [local go_sem] max2_int min2_int max_two min_two max_three min_three max_four min_four
set_option linter.unusedVariables false
set_option linter.unusedSimpArgs false
section
open Go.RowKit Go.Lib Go.Maps Go.Proofs.YthifdofdoeaemaaGreatDoorQ
attribute [local go_sem] Oper.semAt_some
theorem cells3_get : ∀ {l : List Lk} {j : Nat} {u : Value}, (cells3 l)[j]? = some u → ∃ (i : Nat) (y : Lk), l[i]? = some y ∧ (j = i * 3 ∧ u = .string y.1 ∨ j = i * 3 + 1 ∧ u = .int .i64 y.2.1 ∨ j = i * 3 + 2 ∧ u = .string y.2.2)
  | [], j, u, h => by simp [cells3] at h
  | y :: l, 0, u, h => ⟨0, y, rfl, .inl ⟨rfl, by simpa [cells3] using h.symm⟩⟩
  | y :: l, 1, u, h => ⟨0, y, rfl, .inr (.inl ⟨rfl, by simpa [cells3] using h.symm⟩)⟩
  | y :: l, 2, u, h => ⟨0, y, rfl, .inr (.inr ⟨rfl, by simpa [cells3] using h.symm⟩)⟩
  | y :: l, j + 3, u, h => by
    have h' : (cells3 l)[j]? = some u := by simpa [cells3] using h
    obtain ⟨i, z, hz, hu⟩ := cells3_get h'
    refine ⟨i + 1, z, by simpa using hz, ?_⟩
    rcases hu with ⟨h1, h2⟩ | ⟨h1, h2⟩ | ⟨h1, h2⟩
    · exact .inl ⟨by omega, h2⟩
    · exact .inr (.inl ⟨by omega, h2⟩)
    · exact .inr (.inr ⟨by omega, h2⟩)
theorem cells3_one {l : List Lk} : ∀ u ∈ cells3 l, u.oneCell' = true := fun u hu => by
  obtain ⟨j, hj⟩ := List.mem_iff_getElem?.1 hu
  obtain ⟨i, y, -, ⟨-, rfl⟩ | ⟨-, rfl⟩ | ⟨-, rfl⟩⟩ := cells3_get hj <;> rfl
theorem LinksR.cells {W : World} {A : Option Addr} {l : List Lk} (h : LinksR W A l) {a : Addr} (ha : A = some a) {j : Nat} {u : Value} (hu : (cells3 l)[j]? = some u) : W.cell? (a.add j) = some u := by
  obtain ⟨i, y, hy, hc⟩ := cells3_get hu
  obtain ⟨b, o, hA, -, k0, k1, k2⟩ := h.at hy
  rw [ha] at hA
  cases hA
  rw [Addr.add_lit]
  rcases hc with ⟨rfl, rfl⟩ | ⟨rfl, rfl⟩ | ⟨rfl, rfl⟩
  · exact k0
  · exact k1
  · exact k2
theorem run_append_none {P : Program} (w : World) (base : Nat) (t ty e : TypeId) (i : TypeInfo) (size : Nat) (ht : P.underlying t = some (.slice e)) (hi : P.info? e = some i) (v : Value) (n c : Nat) (xs : List Value) (hown : w.ownsRow base e size v n xs) :
    (Builtin.append_ #[t, t] ty #[v, .slice none 0 c]).run P w = .ok v w := by
  rcases hown.2 with ⟨rfl, rfl⟩ | ⟨g, cap, cur, rfl, _, _, hnc, _⟩
  · simp [Builtin.append_, run_underlying ht, sizeOf, typeInfo, hi, Builtin.lenOf, Builtin.firstCells]
  · simp [Builtin.append_, run_underlying ht, sizeOf, typeInfo, hi, Builtin.lenOf, Builtin.firstCells, hnc, storeCells]
theorem links_appended {W : World} {base : Nat} (hb : base ≤ W.heap.size) {v : Value} {k : Nat} {l0 : List Lk} (hv : W.ownsRow base 42 3 v k (cells3 l0)) {A : Option Addr} {n c : Nat} {l : List Lk} (hr : LinksR W A l) (hn : n = l.length) (hl : k + l.length ≤ bound + bound) :
    ∃ A' c' W', (Builtin.append_ #[38, 38] 38 #[v, .slice A n c]).run Tryz.prog W = .ok (.slice A' (k + n) c') W' ∧ W'.ownsRow base 42 3 (.slice A' (k + n) c') (k + n) (cells3 (l0 ++ l)) ∧ W.grownBy W' v.ownBlock := by
  obtain ⟨i0, hi0, hz0, hz1, hz2⟩ := info_parts (P := Tryz.prog) (e := 42) (z := .agg #[.string ⟨#[]⟩, .int .i64 0, .string ⟨#[]⟩]) (size := 3) (bytes := 40) (by kernel_rfl)
  have hcc : cells3 (l0 ++ l) = cells3 l0 ++ cells3 l := by unfold cells3; simp
  rw [hcc]
  unfold bound at hl
  cases A with
  | none =>
    have h0 : l = [] := by
      cases l with
      | nil => rfl
      | cons y t =>
        obtain ⟨b, o, e, -⟩ := hr (by simp)
        cases e
    subst h0
    obtain rfl : n = 0 := hn
    have hrun := run_append_none W base 38 38 42 i0 3 Tryz.underlying38 hi0 v k c _ hv
    obtain ⟨A', c', rfl⟩ := own_sl3 hv
    exact ⟨A', c', W, hrun, by simpa [cells3] using hv, World.grownBy.refl _ _⟩
  | some a =>
    obtain ⟨v', W', h1, h2, h3, -⟩ := run_append_own_at (P := Tryz.prog) W base 38 38 42 i0 _ 3 40 Tryz.underlying38 hi0 hz0 hz1 hz2 rfl (by decide) v k _ hv a n c (cells3 l) (by rw [cells3_len, hn]) (fun j u hu => hr.cells rfl hu) cells3_one (by rw [hn]; unfold maxLen; omega) (by rw [hn]; omega) hb
    obtain ⟨A', c', rfl⟩ := own_sl3 h2
    exact ⟨A', c', W', h1, h2, h3⟩
theorem empty_own (W : World) : (W.alloc (.cells #[] 42 (0, 0))).ownsRow W.heap.size 42 3 (.slice (some ⟨W.heap.size, 0, none⟩) 0 0) 0 (cells3 []) := ⟨rfl, .inr ⟨_, 0, _, rfl, Nat.le_refl _, World.alloc_heap_new _ _, Nat.le_refl _, by decide, rfl, rfl⟩⟩
theorem links_copied (W : World) {A : Option Addr} {n c : Nat} {l : List Lk} (hr : LinksR W A l) (hn : n = l.length) (hl : l.length ≤ bound) :
    ∃ A' c' W', (Builtin.append_ #[38, 38] 38 #[.slice (some ⟨W.heap.size, 0, none⟩) 0 0, .slice A n c]).run Tryz.prog (W.alloc (.cells #[] 42 (0, 0))) = .ok (.slice A' n c') W' ∧ W'.ownsRow W.heap.size 42 3 (.slice A' n c') n (cells3 l) ∧ Below W.heap.size W W' := by
  have hb := below_alloc (Below.refl W.heap.size W) (.cells #[] 42 (0, 0))
  obtain ⟨A', c', W', h1, h2, h3⟩ := links_appended (base := W.heap.size) hb.size (empty_own W) (n := n) (c := c) (hr.below hb) hn (by omega)
  rw [Nat.zero_add] at h1 h2
  exact ⟨A', c', W', h1, by simpa using h2, hb.grown h3 hb.size (fun k hk => by cases hk; exact Nat.le_refl _)⟩
theorem node_pushed {wr w5 : World} {base : Nat} {v : Value} {l : List (Int × GO)} (hv : NodesAt wr base v l) (hb5 : Below wr.heap.size wr w5) (hbase : base ≤ wr.heap.size) {x : Int × GO} {A5 : Option Addr} {c5 : Nat} (h5 : w5.ownsRow wr.heap.size 42 3 (.slice A5 x.2.links.length c5) x.2.links.length (cells3 x.2.links)) (hl : l.length ≤ bound) :
    ∃ A7 c7 w7, (Builtin.append_ #[46, 46] 46 #[v, .slice (some ⟨w5.heap.size, 0, none⟩) 1 1]).run Tryz.prog (w5.alloc (.cells #[.int .i64 x.1, .int .i64 x.2.kind, .slice A5 x.2.links.length c5] 50 (0, 0))) = .ok (.slice A7 (l.length + 1) c7) w7 ∧ NodesAt w7 base (.slice A7 (l.length + 1) c7) (l ++ [x]) ∧ Below base wr w7 := by
  obtain ⟨i0, hi0, hz0, hz1, hz2⟩ := info_parts (P := Tryz.prog) (e := 50) (z := .agg #[.int .i64 0, .int .i64 0, .slice none 0 0]) (size := 3) (bytes := 40) (by kernel_rfl)
  have hb6 : Below wr.heap.size wr (w5.alloc (.cells #[.int .i64 x.1, .int .i64 x.2.kind, .slice A5 x.2.links.length c5] 50 (0, 0))) := hb5.trans ((below_alloc (Below.refl _ _) _).mono hb5.size)
  obtain ⟨sl, n1, n2, n3⟩ := hv.below hb6
  have hnew : (w5.alloc (.cells #[.int .i64 x.1, .int .i64 x.2.kind, .slice A5 x.2.links.length c5] 50 (0, 0))).ownsRow w5.heap.size 50 3 (.slice (some ⟨w5.heap.size, 0, none⟩) 1 1) 1 [.int .i64 x.1, .int .i64 x.2.kind, .slice A5 x.2.links.length c5] := ⟨rfl, .inr ⟨_, 1, _, rfl, Nat.le_refl _, World.alloc_heap_new _ _, Nat.le_refl _, by decide, rfl, rfl⟩⟩
  obtain ⟨v7, w7, hr7, ho7, hg7⟩ := run_append_row (P := Tryz.prog) _ base w5.heap.size 46 46 50 i0 (.agg #[.int .i64 0, .int .i64 0, .slice none 0 0]) 3 40 Tryz.underlying46 hi0 hz0 hz1 hz2 rfl (by decide) v _ _ 1 _ _ n2 hnew (by simp [Value.oneCell']) (by unfold bound at hl; unfold maxLen; omega) (by unfold bound at hl; omega) (by have := hb6.size; omega)
  have hu5 : (w5.alloc (.cells #[.int .i64 x.1, .int .i64 x.2.kind, .slice A5 x.2.links.length c5] 50 (0, 0))).ownsRow base 42 3 (.slice A5 x.2.links.length c5) x.2.links.length (cells3 x.2.links) := (row_same h5 (SameOn.of_below (S := fun _ => True) (below_alloc (Below.refl _ _) _)) (fun _ _ => trivial)).mono hbase
  have hpush := NodesAt.push (x := x) n1 ho7 n3 hu5 n2 hg7
  obtain ⟨A7, c7, rfl⟩ := own_sl3 ho7
  exact ⟨A7, c7, w7, hr7, hpush, (hb6.mono hbase).grown hg7 (by have := hb6.size; omega) (own_base n2)⟩
theorem nodes_nil (W : World) (base : Nat) : NodesAt W base (.slice none 0 0) [] := ⟨[], rfl, World.ownsRow_nil _ _ _ _, fun j u v hx _ => by simp at hx⟩
theorem nodes_sl {W : World} {base : Nat} {v : Value} {l : List (Int × GO)} (h : NodesAt W base v l) : ∃ A c, v = .slice A l.length c := by
  obtain ⟨sl, -, h2, -⟩ := h
  exact own_sl3 h2
theorem held4 {W W' : World} {g b o1 o2 o3 : Nat} {v1 v2 v3 v4 : Value} (h : W.cell? ⟨g, 1, none⟩ = some v1 ∧ W.cell? ⟨b, o1, none⟩ = some v2 ∧ W.cell? ⟨b, o2, none⟩ = some v3 ∧ W.cell? ⟨b, o3, none⟩ = some v4) (hb : Below W.heap.size W W') :
    W'.cell? ⟨g, 1, none⟩ = some v1 ∧ W'.cell? ⟨b, o1, none⟩ = some v2 ∧ W'.cell? ⟨b, o2, none⟩ = some v3 ∧ W'.cell? ⟨b, o3, none⟩ = some v4 :=
  ⟨(hb.cell (World.block_lt_of_cell? _ _ h.1)).trans h.1, (hb.cell (World.block_lt_of_cell? _ _ h.2.1)).trans h.2.1, (hb.cell (World.block_lt_of_cell? _ _ h.2.2.1)).trans h.2.2.1, (hb.cell (World.block_lt_of_cell? _ _ h.2.2.2)).trans h.2.2.2⟩
set_option maxHeartbeats 8000000 in
set_option maxRecDepth 100000 in
theorem refNodes_calls (w : World) (g : Nat) (next : Int) (A : Option Addr) (c : Nat) (l : List (Int × GO)) (hr : RefR w g next A c l) (hb : l.length ≤ bound) (hlb : ∀ x ∈ l, x.2.links.length ≤ bound) :
    Calls Tryz.prog 59 #[.pointer (some ⟨g, 0, none⟩)] w fun e w' => ∃ v, e = .returned v ∧ NodesAt w' w.heap.size v l ∧ Below w.heap.size w w' := by
  have HR := Aside0.mk hr
  have HB := Aside0.mk hb
  have HLB := Aside0.mk hlb
  clear hr hb hlb
  go_enter Tryz.func59, Tryz.ntmps59
  go_wp2
  go_loopg [3, 4] l.length (fun kq v3 v4 W => ∃ (i : Nat) (iv : Int), v4 = .int .i64 iv ∧ Aside0 (iv = (i : Int)) ∧ Aside0 (i ≤ l.length ∧ l.length - i ≤ kq) ∧ Aside0 (NodesAt W w.heap.size v3 (l.take i)) ∧ Aside0 (Below w.heap.size w W))
  case atStart => exact ⟨0, 0, rfl, ⟨rfl⟩, ⟨by omega, by omega⟩, ⟨nodes_nil _ _⟩, ⟨Below.refl _ _⟩⟩
  case round =>
    obtain ⟨i, iv, rfl, HIV, HI, HN, HBW⟩ := hrel
    have HRR := Aside0.mk (HR.out.below HBW.out)
    have c1 := HRR.out.c1
    by_cases hlt : i < l.length
    · obtain ⟨x, hx⟩ : ∃ x, l[i]? = some x := ⟨_, List.getElem?_eq_getElem hlt⟩
      obtain ⟨b, o, Ax, cx, rfl, -, x0, x1, x2, -, -, hxr⟩ := HRR.out.objs.at hx
      have HXR := Aside0.mk hxr
      have q1 : decide (iv < (l.length : Int)) = true := decide_eq_true (by have := HIV.out; omega)
      have q2 : (iv < (l.length : Int)) = True := eq_true (by have := HIV.out; omega)
      have q3 : (0 : Int) ≤ iv := by have := HIV.out; omega
      have q4 : iv.toNat = i := by have := HIV.out; omega
      have w1_ : wrap64 (iv + 1) = iv + 1 := wrap_ok9 _ (by omega) (by have := HIV.out; have := HB.out; unfold bound at this; omega)
      have HLT := Aside0.mk hlt
      have HX := Aside0.mk hx
      have HXB := Aside0.mk (HLB.out x (List.mem_of_getElem? hx))
      have HTL : Aside0 ((l.take i).length = i) := ⟨by rw [List.length_take]; omega⟩
      have HTK : Aside0 (l.take (i + 1) = l.take i ++ [x]) := ⟨by obtain ⟨h1, e1⟩ := List.getElem?_eq_some_iff.1 hx; rw [List.take_succ_eq_append_getElem h1, e1]⟩
      clear hx hlt hxr
      go_upto_region 5 with (fail)
      have hS : wr.drew.cell? ⟨g, 1, none⟩ = some (.slice (some ⟨b, o, none⟩) l.length c) ∧ wr.drew.cell? ⟨b, o + i * 4, none⟩ = some (.int .i64 x.1) ∧ wr.drew.cell? ⟨b, o + i * 4 + 1, none⟩ = some (.int .i64 x.2.kind) ∧ wr.drew.cell? ⟨b, o + i * 4 + 2, none⟩ = some (.slice Ax x.2.links.length cx) := ⟨c1, x0, x1, x2⟩
      refine start_ (n := 31) (S := fun W' => W'.cell? ⟨g, 1, none⟩ = some (.slice (some ⟨b, o, none⟩) l.length c) ∧ W'.cell? ⟨b, o + i * 4, none⟩ = some (.int .i64 x.1) ∧ W'.cell? ⟨b, o + i * 4 + 1, none⟩ = some (.int .i64 x.2.kind) ∧ W'.cell? ⟨b, o + i * 4 + 2, none⟩ = some (.slice Ax x.2.links.length cx)) (ds := [28, 29]) #[false, false, false, false, false, false, false, false, false, false, false, false, false, false, false, false, false, false, false, false, false, false, false, false, false, false, false, false, false, false, false] (by kernel_rfl) rfl rfl hS (fun hHeld => ?_)
      refine pure_ (i := 0) (N := some 14) (v := ?_) (a' := ?_) (bb 31 1) rfl rfl (by kernel_rfl) (fun _ _ _ h => h) (Or.inl ⟨by rfl, ?_⟩) ?_ ?_
      rotate_left
      · intro w'
        go_simp
        with_reducible rfl
      rotate_left
      · simp only [Act.put, sa, sz, ss, i64_w, i32_w]
        rfl
      refine pure_ (i := 1) (N := some 15) (v := ?_) (a' := ?_) (bb 31 3) rfl rfl (by kernel_rfl) (fun _ _ _ h => h) (Or.inl ⟨by rfl, ?_⟩) ?_ ?_
      rotate_left
      · intro w'
        go_simp
        with_reducible rfl
      rotate_left
      · simp only [Act.put, sa, sz, ss, i64_w, i32_w]
        rfl
      refine pure_ (i := 2) (N := some 16) (v := ?_) (a' := ?_) (bb 31 7) rfl rfl (by kernel_rfl) (fun _ _ _ h => h) (Or.inl ⟨by rfl, ?_⟩) ?_ ?_
      rotate_left
      · intro w'
        go_simp
        with_reducible rfl
      rotate_left
      · simp only [Act.put, sa, sz, ss, i64_w, i32_w]
        rfl
      refine pure_ (i := 3) (N := some 17) (v := ?_) (a' := ?_) (bb 31 15) rfl rfl (by kernel_rfl) (fun _ _ _ h => h) (Or.inl ⟨by rfl, ?_⟩) ?_ ?_
      rotate_left
      · intro w'
        go_simp
        with_reducible rfl
      rotate_left
      · simp only [Act.put, sa, sz, ss, i64_w, i32_w]
        rfl
      refine take_ (i := 4) (N := some 18) (v := ?_) (a' := ?_) (bb 31 31) rfl rfl (by kernel_rfl) (fun _ _ _ h => h) (Or.inl ⟨by rfl, ?_⟩) hHeld ?_ ?_
      rotate_left
      · rintro w' ⟨s1_, s2_, s3_, s4_⟩
        go_simp
        with_reducible rfl
      rotate_left
      · simp only [Act.put, sa, sz, ss, i64_w, i32_w]
        rfl
      refine pure_ (i := 5) (N := some 19) (v := ?_) (a' := ?_) (bb 31 63) rfl rfl (by kernel_rfl) (fun _ _ _ h => h) (Or.inl ⟨by rfl, ?_⟩) ?_ ?_
      rotate_left
      · intro w'
        go_simp
        with_reducible rfl
      rotate_left
      · simp only [Act.put, sa, sz, ss, i64_w, i32_w]
        rfl
      refine pure_ (i := 6) (N := some 20) (v := ?_) (a' := ?_) (bb 31 127) rfl rfl (by kernel_rfl) (fun _ _ _ h => h) (Or.inl ⟨by rfl, ?_⟩) ?_ ?_
      rotate_left
      · intro w'
        go_simp
        with_reducible rfl
      rotate_left
      · simp only [Act.put, sa, sz, ss, i64_w, i32_w]
        rfl
      refine pure_ (i := 7) (N := some 21) (v := ?_) (a' := ?_) (bb 31 255) rfl rfl (by kernel_rfl) (fun _ _ _ h => h) (Or.inl ⟨by rfl, ?_⟩) ?_ ?_
      rotate_left
      · intro w'
        go_simp
        with_reducible rfl
      rotate_left
      · simp only [Act.put, sa, sz, ss, i64_w, i32_w]
        rfl
      refine take_ (i := 8) (N := some 22) (v := ?_) (a' := ?_) (bb 31 511) rfl rfl (by kernel_rfl) (fun _ _ _ h => h) (Or.inl ⟨by rfl, ?_⟩) hHeld ?_ ?_
      rotate_left
      · rintro w' ⟨s1_, s2_, s3_, s4_⟩
        go_simp
        with_reducible rfl
      rotate_left
      · simp only [Act.put, sa, sz, ss, i64_w, i32_w]
        rfl
      refine pure_ (i := 9) (N := some 23) (v := ?_) (a' := ?_) (bb 31 1023) rfl rfl (by kernel_rfl) (fun _ _ _ h => h) (Or.inl ⟨by rfl, ?_⟩) ?_ ?_
      rotate_left
      · intro w'
        go_simp
        with_reducible rfl
      rotate_left
      · simp only [Act.put, sa, sz, ss, i64_w, i32_w]
        rfl
      refine pure_ (i := 10) (N := some 24) (v := ?_) (a' := ?_) (bb 31 2047) rfl rfl (by kernel_rfl) (fun _ _ _ h => h) (Or.inl ⟨by rfl, ?_⟩) ?_ ?_
      rotate_left
      · intro w'
        go_simp
        with_reducible rfl
      rotate_left
      · simp only [Act.put, sa, sz, ss, i64_w, i32_w]
        rfl
      refine pure_ (i := 11) (N := some 25) (v := ?_) (a' := ?_) (bb 31 4095) rfl rfl (by kernel_rfl) (fun _ _ _ h => h) (Or.inl ⟨by rfl, ?_⟩) ?_ ?_
      rotate_left
      · intro w'
        go_simp
        with_reducible rfl
      rotate_left
      · simp only [Act.put, sa, sz, ss, i64_w, i32_w]
        rfl
      refine take_ (i := 12) (N := some 26) (v := ?_) (a' := ?_) (bb 31 8191) rfl rfl (by kernel_rfl) (fun _ _ _ h => h) (Or.inl ⟨by rfl, ?_⟩) hHeld ?_ ?_
      rotate_left
      · rintro w' ⟨s1_, s2_, s3_, s4_⟩
        go_simp
        with_reducible rfl
      rotate_left
      · simp only [Act.put, sa, sz, ss, i64_w, i32_w]
        rfl
      refine pure_ (i := 13) (N := some 27) (v := ?_) (a' := ?_) (bb 31 16383) rfl rfl (by kernel_rfl) (fun _ _ _ h => h) (Or.inl ⟨by rfl, ?_⟩) ?_ ?_
      rotate_left
      · intro w'
        go_simp
        with_reducible rfl
      rotate_left
      · simp only [Act.put, sa, sz, ss, i64_w, i32_w]
        rfl
      refine pure_ (i := 14) (N := some 28) (v := ?_) (a' := ?_) (bb 31 32767) rfl rfl (by kernel_rfl) (fun _ _ _ h => h) (Or.inl ⟨by rfl, ?_⟩) ?_ ?_
      rotate_left
      · intro w'
        go_simp
        with_reducible rfl
      rotate_left
      · simp only [Act.put, sa, sz, ss, i64_w, i32_w]
        rfl
      refine pure_ (i := 15) (N := some 29) (v := ?_) (a' := ?_) (bb 31 65535) rfl rfl (by kernel_rfl) (fun _ _ _ h => h) (Or.inl ⟨by rfl, ?_⟩) ?_ ?_
      rotate_left
      · intro w'
        go_simp
        with_reducible rfl
      rotate_left
      · simp only [Act.put, sa, sz, ss, i64_w, i32_w]
        rfl
      refine take_ (i := 16) (N := some 30) (v := ?_) (a' := ?_) (bb 31 131071) rfl rfl (by kernel_rfl) (fun _ _ _ h => h) (Or.inl ⟨by rfl, ?_⟩) hHeld ?_ ?_
      rotate_left
      · rintro w' ⟨s1_, s2_, s3_, s4_⟩
        go_simp
        with_reducible rfl
      rotate_left
      · simp only [Act.put, sa, sz, ss, i64_w, i32_w]
        rfl
      refine pure_ (i := 18) (N := some 32) (v := ?_) (a' := ?_) (bb 31 393215) rfl rfl (by kernel_rfl) (fun _ _ _ h => h) (Or.inl ⟨by rfl, ?_⟩) ?_ ?_
      rotate_left
      · intro w'
        go_simp
        with_reducible rfl
      rotate_left
      · simp only [Act.put, sa, sz, ss, i64_w, i32_w]
        rfl
      refine pure_ (i := 19) (N := some 33) (v := ?_) (a' := ?_) (bb 31 917503) rfl rfl (by kernel_rfl) (fun _ _ _ h => h) (Or.inl ⟨by rfl, ?_⟩) ?_ ?_
      rotate_left
      · intro w'
        go_simp
        with_reducible rfl
      rotate_left
      · simp only [Act.put, sa, sz, ss, i64_w, i32_w]
        rfl
      refine pure_ (i := 20) (N := some 34) (v := ?_) (a' := ?_) (bb 31 1966079) rfl rfl (by kernel_rfl) (fun _ _ _ h => h) (Or.inl ⟨by rfl, ?_⟩) ?_ ?_
      rotate_left
      · intro w'
        go_simp
        with_reducible rfl
      rotate_left
      · simp only [Act.put, sa, sz, ss, i64_w, i32_w]
        rfl
      refine take_ (i := 21) (N := some 35) (v := ?_) (a' := ?_) (bb 31 4063231) rfl rfl (by kernel_rfl) (fun _ _ _ h => h) (Or.inl ⟨by rfl, ?_⟩) hHeld ?_ ?_
      rotate_left
      · rintro w' ⟨s1_, s2_, s3_, s4_⟩
        go_simp
        with_reducible rfl
      rotate_left
      · simp only [Act.put, sa, sz, ss, i64_w, i32_w]
        rfl
      refine pure_ (i := 22) (N := some 36) (v := ?_) (a' := ?_) (bb 31 8257535) rfl rfl (by kernel_rfl) (fun _ _ _ h => h) (Or.inl ⟨by rfl, ?_⟩) ?_ ?_
      rotate_left
      · intro w'
        go_simp
        with_reducible rfl
      rotate_left
      · simp only [Act.put, sa, sz, ss, i64_w, i32_w]
        rfl
      refine pure_ (i := 23) (N := some 37) (v := ?_) (a' := ?_) (bb 31 16646143) rfl rfl (by kernel_rfl) (fun _ _ _ h => h) (Or.inl ⟨by rfl, ?_⟩) ?_ ?_
      rotate_left
      · intro w'
        go_simp
        with_reducible rfl
      rotate_left
      · simp only [Act.put, sa, sz, ss, i64_w, i32_w]
        rfl
      refine pure_ (i := 24) (N := some 38) (v := ?_) (a' := ?_) (bb 31 33423359) rfl rfl (by kernel_rfl) (fun _ _ _ h => h) (Or.inl ⟨by rfl, ?_⟩) ?_ ?_
      rotate_left
      · intro w'
        go_simp
        with_reducible rfl
      rotate_left
      · simp only [Act.put, sa, sz, ss, i64_w, i32_w]
        rfl
      refine take_ (i := 25) (N := some 39) (v := ?_) (a' := ?_) (bb 31 66977791) rfl rfl (by kernel_rfl) (fun _ _ _ h => h) (Or.inl ⟨by rfl, ?_⟩) hHeld ?_ ?_
      rotate_left
      · rintro w' ⟨s1_, s2_, s3_, s4_⟩
        go_simp
        with_reducible rfl
      rotate_left
      · simp only [Act.put, sa, sz, ss, i64_w, i32_w]
        rfl
      refine one_ (i := 17) (N := some 31) (bb 31 67108863) rfl rfl (by kernel_rfl) (by decide) (fun K hK => ?_)
      skip
      refine value_ (v := .slice (some ⟨wr.drew.heap.size, 0, none⟩) 0 0) (w1 := wr.drew.alloc (.cells #[] 42 (0, 0))) (by rfl) rfl (by go_simp) ?_
      refine hK.out _ _ (held4 hHeld (below_alloc (Below.refl _ _) _)) (fun hHeld => ?_)
      clear hK K
      refine norm_ (a' := ?_) ?_ ?_
      rotate_left
      · show Act.put _ (some 31) _ = _
        simp only [Act.put, sa, sz, ss, i64_w, i32_w]
        rfl
      obtain ⟨A5, c5, w5, hr5, ho5, hb5⟩ := links_copied wr.drew (A := Ax) (n := x.2.links.length) (c := cx) (HXR.out.below (below_drew (Below.refl _ _))) rfl HXB.out
      have HR5 := Aside0.mk hr5
      have HO5 := Aside0.mk ho5
      have HB5 : Aside0 (Below wr.heap.size wr w5) := ⟨(below_drew (Below.refl _ _)).trans hb5⟩
      clear hr5 ho5
      refine one_ (i := 26) (N := some 40) (bb 31 134217727) rfl rfl (by kernel_rfl) (by decide) (fun K hK => ?_)
      refine step_append rfl (.tmp 31) (.tmp 39) 38 rfl rfl rfl HR5.out ?_
      refine hK.out _ _ (held4 hS hb5) (fun hHeld => ?_)
      clear hK K hb5
      refine norm_ (a' := ?_) ?_ ?_
      rotate_left
      · show Act.put _ (some 40) _ = _
        simp only [Act.put, sa, sz, ss, i64_w, i32_w]
        rfl
      refine pure_ (i := 27) (N := some 41) (v := ?_) (a' := ?_) (bb 31 268435455) rfl rfl (by kernel_rfl) (fun _ _ _ h => h) (Or.inl ⟨by rfl, ?_⟩) ?_ ?_
      rotate_left
      · intro w'
        go_simp
        with_reducible rfl
      rotate_left
      · simp only [Act.put, sa, sz, ss, i64_w, i32_w]
        rfl
      refine last_ (i := 28) (N := some 42) (bb 31 536870911) rfl rfl (by kernel_rfl) (by decide) (fun K hK => ?_)
      skip
      refine value_ (v := .slice (some ⟨w5.heap.size, 0, none⟩) 1 1) (w1 := w5.alloc (.cells #[.int .i64 x.1, .int .i64 x.2.kind, .slice A5 x.2.links.length c5] 50 (0, 0))) (by rfl) rfl (by go_simp) ?_
      refine hK.out _ _ ?_
      clear hK K
      refine norm_ (a' := ?_) ?_ ?_
      rotate_left
      · show Act.put _ (some 42) _ = _
        simp only [Act.put, sa, sz, ss, i64_w, i32_w]
        rfl
      obtain ⟨A7, c7, w7, hr7, hpush, hb7⟩ := node_pushed HN.out HB5.out HBW.out.size HO5.out (by have := HTL.out; have := HB.out; have := HLT.out; omega)
      rw [HTL.out] at hr7 hpush
      rw [← HTK.out] at hpush
      have HR7 := Aside0.mk hr7
      have HPUSH := Aside0.mk hpush
      have HB7 := Aside0.mk (HBW.out.trans hb7)
      clear hr7 hpush hb7
      refine last_ (i := 29) (N := some 43) (bb 31 1073741823) rfl rfl (by kernel_rfl) (by decide) (fun K hK => ?_)
      refine step_append rfl (.tmp 14) (.tmp 42) 46 rfl rfl rfl HR7.out ?_
      refine hK.out _ _ ?_
      clear hK K
      refine norm_ (a' := ?_) ?_ ?_
      rotate_left
      · show Act.put _ (some 43) _ = _
        simp only [Act.put, sa, sz, ss, i64_w, i32_w]
        rfl
      refine pure_ (i := 30) (N := some 3) (v := ?_) (a' := ?_) (bb 31 2147483647) rfl rfl (by kernel_rfl) (fun _ _ _ h => h) (Or.inl ⟨by rfl, ?_⟩) ?_ ?_
      rotate_left
      · intro w'
        go_simp
        with_reducible rfl
      rotate_left
      · simp only [Act.put, sa, sz, ss, i64_w, i32_w]
        rfl
      refine done_ (by kernel_rfl) ?_
      clear hHeld hS c1 x0 x1 x2
      go_wp2
      clear q4
      go_roundg (gk - 1)
      case measure => have := HI.out; have := HLT.out; omega
      case rel => exact ⟨i + 1, iv + 1, by first | rfl | rw [w1_], ⟨by have := HIV.out; omega⟩, ⟨by have := HLT.out; omega, by have := HI.out; omega⟩, HPUSH, HB7⟩
    · have q1 : decide (iv < (l.length : Int)) = false := decide_eq_false (by have := HIV.out; omega)
      have q2 : (iv < (l.length : Int)) = False := eq_false (by have := HIV.out; omega)
      have HLT := Aside0.mk hlt
      clear hlt
      go_wp2
      go_ret
      exact ⟨_, rfl, by have := HN.out; rw [List.take_of_length_le (by have := HLT.out; omega)] at this; exact this, HBW.out⟩
end
end Go.Proofs.YthifdofdoeaemaaGreatDoor.Wk
end
section
namespace Go.Proofs.YthifdofdoeaemaaGreatDoor.Wk
open Go.RowKit Go.Proofs.YthifdofdoeaemaaGreatDoorW.PrintWords Go.Proofs.YthifdofdoeaemaaGreatDoorW.PrintLast Go.Proofs.YthifdofdoeaemaaGreatDoorW.PrintMore
attribute [local go_sem] max2_int min2_int max_two min_two max_three min_three max_four min_four
set_option linter.unusedVariables false
set_option linter.unusedSimpArgs false
section
open Go.RowKit Go.Lib Go.Maps Go.Proofs.YthifdofdoeaemaaGreatDoorQ
attribute [local go_sem] Oper.semAt_some
def objC : List (Int × GO) → List Value → List Value
  | x :: l, u :: sl => .int .i64 x.1 :: .int .i64 x.2.kind :: u :: .int .i64 x.2.held :: objC l sl
  | _, _ => []
theorem objC_snoc : ∀ (l : List (Int × GO)) (sl : List Value) (x : Int × GO) (u : Value), sl.length = l.length → objC (l ++ [x]) (sl ++ [u]) = objC l sl ++ [.int .i64 x.1, .int .i64 x.2.kind, u, .int .i64 x.2.held]
  | [], [], x, u, _ => rfl
  | a :: l, b :: sl, x, u, h => by
    show _ :: _ :: _ :: _ :: objC (l ++ [x]) (sl ++ [u]) = _
    rw [objC_snoc l sl x u (by simpa using h)]
    rfl
theorem objC_get : ∀ {l : List (Int × GO)} {sl : List Value} {j : Nat} {x : Int × GO} {u : Value}, l[j]? = some x → sl[j]? = some u → (objC l sl)[j * 4]? = some (.int .i64 x.1) ∧ (objC l sl)[j * 4 + 1]? = some (.int .i64 x.2.kind) ∧ (objC l sl)[j * 4 + 2]? = some u ∧ (objC l sl)[j * 4 + 3]? = some (.int .i64 x.2.held)
  | a :: l, b :: sl, 0, x, u, hx, hu => by
    cases hx; cases hu
    exact ⟨rfl, rfl, rfl, rfl⟩
  | a :: l, b :: sl, j + 1, x, u, hx, hu => by
    obtain ⟨h1, h2, h3, h4⟩ := objC_get (l := l) (sl := sl) (j := j) (by simpa using hx) (by simpa using hu)
    have e : (j + 1) * 4 = j * 4 + 4 := by omega
    rw [e]
    exact ⟨h1, h2, h3, h4⟩
  | [], _, j, x, u, hx, _ => by simp at hx
  | a :: l, [], j, x, u, _, hu => by simp at hu
def ObjsAt (W : World) (base : Nat) (v : Value) (l : List (Int × GO)) : Prop := ∃ sl : List Value, sl.length = l.length ∧ W.ownsRow base 106 4 v l.length (objC l sl) ∧
  ∀ (j : Nat) (x : Int × GO) (u : Value), l[j]? = some x → sl[j]? = some u → W.ownsRow base 42 3 u x.2.links.length (cells3 x.2.links)
theorem own_sl4 {w : World} {base n size : Nat} {e : TypeId} {v : Value} {xs : List Value} (h : w.ownsRow base e size v n xs) : ∃ A c, v = .slice A n c := by
  rcases h.2 with ⟨rfl, rfl⟩ | ⟨g, cap, cur, rfl, _⟩
  · exact ⟨_, _, rfl⟩
  · exact ⟨_, _, rfl⟩
theorem ObjsAt.sl {W : World} {base : Nat} {v : Value} {l : List (Int × GO)} (h : ObjsAt W base v l) : ∃ A c, v = .slice A l.length c ∧ l.length ≤ c := by
  obtain ⟨sl, -, h2, -⟩ := h
  obtain ⟨A, c, rfl⟩ := own_sl4 h2
  exact ⟨A, c, rfl, row_cap h2⟩
theorem ObjsAt.below {w W : World} {base : Nat} {v : Value} {l : List (Int × GO)} (h : ObjsAt w base v l) (hb : Below w.heap.size w W) : ObjsAt W base v l := by
  obtain ⟨sl, h1, h2, h3⟩ := h
  exact ⟨sl, h1, row_same h2 (SameOn.of_below (S := fun _ => True) hb) (fun _ _ => trivial), fun j x u hx hu => row_same (h3 j x u hx hu) (SameOn.of_below (S := fun _ => True) hb) (fun _ _ => trivial)⟩
theorem ObjsAt.mono {W : World} {base base' : Nat} {v : Value} {l : List (Int × GO)} (h : ObjsAt W base v l) (hb : base' ≤ base) : ObjsAt W base' v l := by
  obtain ⟨sl, h1, h2, h3⟩ := h
  exact ⟨sl, h1, h2.mono hb, fun j x u hx hu => (h3 j x u hx hu).mono hb⟩
theorem own_apart {W : World} {b n s : Nat} {e t : TypeId} {v : Value} {xs : List Value} (h : W.ownsRow b e s v n xs) {g : Nat} {cs : Array Value} (hg : W.heap[g]? = some (.cells cs t (0, 0))) (he : e ≠ t) {k : Nat} (hk : v.ownBlock = some k) : k ≠ g := by
  obtain ⟨c1, q1⟩ := own_typed h k hk
  rintro rfl
  rw [hg] at q1
  cases q1
  exact he rfl
theorem ObjsAt.move {w W : World} {base : Nat} {v : Value} {l : List (Int × GO)} (h : ObjsAt w base v l) {g : Nat} {cs : Array Value} {t : TypeId} (hg : w.heap[g]? = some (.cells cs t (0, 0))) (h1 : 106 ≠ t) (h2 : 42 ≠ t) (hs : ∀ k, k ≠ g → W.heap[k]? = w.heap[k]?) : ObjsAt W base v l := by
  obtain ⟨sl, n1, n2, n3⟩ := h
  exact ⟨sl, n1, own_move n2 (fun k hk => hs k (own_apart n2 hg h1 hk)), fun j x u hx hu => own_move (n3 j x u hx hu) (fun k hk => hs k (own_apart (n3 j x u hx hu) hg h2 hk))⟩
theorem ObjsAt.push {w1 w2 : World} {base : Nat} {v v' : Value} {l : List (Int × GO)} {x : Int × GO} {sl : List Value} {u : Value} (h1 : sl.length = l.length)
    (h2 : w2.ownsRow base 106 4 v' (l.length + 1) (objC l sl ++ [.int .i64 x.1, .int .i64 x.2.kind, u, .int .i64 x.2.held]))
    (h3 : ∀ (j : Nat) (y : Int × GO) (z : Value), l[j]? = some y → sl[j]? = some z → w1.ownsRow base 42 3 z y.2.links.length (cells3 y.2.links)) (hu : w1.ownsRow base 42 3 u x.2.links.length (cells3 x.2.links))
    (ho : w1.ownsRow base 106 4 v l.length (objC l sl)) (hg : w1.grownBy w2 v.ownBlock) : ObjsAt w2 base v' (l ++ [x]) := by
  have keep : ∀ {n : Nat} {z : Value} {ys : List Value}, w1.ownsRow base 42 3 z n ys → w2.ownsRow base 42 3 z n ys := fun {n z ys} hz =>
    own_move hz (fun k hk => hg.block k (hz.lt k hk).2 (fun e => rows_apart hz ho (by decide) hk e.symm))
  refine ⟨sl ++ [u], by simp [h1], ?_, fun j y z hy hz => ?_⟩
  · rw [objC_snoc l sl x u h1, List.length_append]
    exact h2
  · by_cases hj : j < l.length
    · rw [List.getElem?_append_left hj] at hy
      rw [List.getElem?_append_left (by omega)] at hz
      exact keep (h3 j y z hy hz)
    · have hj2 : j = l.length := by
        have := (List.getElem?_eq_some_iff.1 hy).1
        simp at this
        omega
      subst hj2
      rw [List.getElem?_append_right (Nat.le_refl _)] at hy
      rw [List.getElem?_append_right (by omega)] at hz
      simp at hy
      rw [h1] at hz
      simp at hz
      subst hy
      subst hz
      exact keep hu
theorem obj_pushed {wr w5 : World} {base : Nat} {v : Value} {l : List (Int × GO)} (hv : ObjsAt wr base v l) (hb5 : Below wr.heap.size wr w5) (hbase : base ≤ wr.heap.size) {x : Int × GO} {A5 : Option Addr} {c5 : Nat} (h5 : w5.ownsRow base 42 3 (.slice A5 x.2.links.length c5) x.2.links.length (cells3 x.2.links)) (hl : l.length ≤ bound) :
    ∃ A7 c7 w7, (Builtin.append_ #[102, 102] 102 #[v, .slice (some ⟨w5.heap.size, 0, none⟩) 1 1]).run Tryz.prog (w5.alloc (.cells #[.int .i64 x.1, .int .i64 x.2.kind, .slice A5 x.2.links.length c5, .int .i64 x.2.held] 106 (0, 0))) = .ok (.slice A7 (l.length + 1) c7) w7 ∧ ObjsAt w7 base (.slice A7 (l.length + 1) c7) (l ++ [x]) ∧ (w5.alloc (.cells #[.int .i64 x.1, .int .i64 x.2.kind, .slice A5 x.2.links.length c5, .int .i64 x.2.held] 106 (0, 0))).grownBy w7 v.ownBlock := by
  obtain ⟨i0, hi0, hz0, hz1, hz2⟩ := info_parts (P := Tryz.prog) (e := 106) (z := .agg #[.int .i64 0, .int .i64 0, .slice none 0 0, .int .i64 0]) (size := 4) (bytes := 48) (by kernel_rfl)
  have hb6 : Below wr.heap.size wr (w5.alloc (.cells #[.int .i64 x.1, .int .i64 x.2.kind, .slice A5 x.2.links.length c5, .int .i64 x.2.held] 106 (0, 0))) := hb5.trans ((below_alloc (Below.refl _ _) _).mono hb5.size)
  obtain ⟨sl, n1, n2, n3⟩ := hv.below hb6
  have hnew : (w5.alloc (.cells #[.int .i64 x.1, .int .i64 x.2.kind, .slice A5 x.2.links.length c5, .int .i64 x.2.held] 106 (0, 0))).ownsRow w5.heap.size 106 4 (.slice (some ⟨w5.heap.size, 0, none⟩) 1 1) 1 [.int .i64 x.1, .int .i64 x.2.kind, .slice A5 x.2.links.length c5, .int .i64 x.2.held] := ⟨rfl, .inr ⟨_, 1, _, rfl, Nat.le_refl _, World.alloc_heap_new _ _, Nat.le_refl _, by decide, rfl, rfl⟩⟩
  obtain ⟨v7, w7, hr7, ho7, hg7⟩ := run_append_row (P := Tryz.prog) _ base w5.heap.size 102 102 106 i0 (.agg #[.int .i64 0, .int .i64 0, .slice none 0 0, .int .i64 0]) 4 48 Tryz.underlying102 hi0 hz0 hz1 hz2 rfl (by decide) v _ _ 1 _ _ n2 hnew (by simp [Value.oneCell']) (by unfold bound at hl; unfold maxLen; omega) (by unfold bound at hl; omega) (by have := hb6.size; omega)
  have hu5 := row_same h5 (SameOn.of_below (S := fun _ => True) (below_alloc (Below.refl _ _) (.cells #[.int .i64 x.1, .int .i64 x.2.kind, .slice A5 x.2.links.length c5, .int .i64 x.2.held] 106 (0, 0)))) (fun _ _ => trivial)
  have hpush := ObjsAt.push (x := x) n1 ho7 n3 hu5 n2 hg7
  obtain ⟨A7, c7, rfl⟩ := own_sl4 ho7
  exact ⟨A7, c7, w7, hr7, hpush, hg7⟩
theorem ObjsAt.base {W : World} {base : Nat} {v : Value} {l : List (Int × GO)} (h : ObjsAt W base v l) {k : Nat} (hk : v.ownBlock = some k) : base ≤ k ∧ k < W.heap.size := by
  obtain ⟨sl, -, h2, -⟩ := h
  exact h2.lt k hk
theorem ObjsAt.R {W : World} {base : Nat} {A : Option Addr} {c : Nat} {l : List (Int × GO)} (h : ObjsAt W base (.slice A l.length c) l) : ObjsR W A l := fun h0 => by
  obtain ⟨sl, h1, h2, h3⟩ := h
  obtain ⟨g, hA, hg⟩ : ∃ g, A = some ⟨g, 0, none⟩ ∧ g < W.heap.size := by
    have h2' := h2
    rcases h2'.2 with ⟨h4, h5⟩ | ⟨g, cap, cur, h4, h5, h6, -⟩
    · omega
    · cases h4
      exact ⟨g, rfl, blk_lt h6⟩
  subst hA
  refine ⟨g, 0, rfl, hg, fun j x hx => ?_⟩
  obtain ⟨u, hu⟩ : ∃ u, sl[j]? = some u := ⟨_, List.getElem?_eq_getElem (by have := (List.getElem?_eq_some_iff.1 hx).1; omega)⟩
  have h4 := h3 j x u hx hu
  obtain ⟨Ax, cx, rfl⟩ := own_sl4 h4
  obtain ⟨k0, k1, k2, k3⟩ := objC_get hx hu
  have hc : ∀ m z, (objC l sl)[m]? = some z → W.cell? ⟨g, m, none⟩ = some z := fun m z hz => by
    have := h2.cells (g := g) rfl m z hz
    rwa [Addr.add_lit, Nat.zero_add] at this
  rw [Nat.zero_add]
  exact ⟨Ax, cx, hc _ _ k0, hc _ _ k1, hc _ _ k2, hc _ _ k3, row_cap h4, links_own h4 rfl⟩
structure RefAt (W : World) (base g : Nat) (next : Int) (v : Value) (l : List (Int × GO)) : Prop where
  lo : base ≤ g
  blk : W.heap[g]? = some (.cells #[.int .i64 next, v] 104 (0, 0))
  objs : ObjsAt W base v l
theorem RefAt.below {w W : World} {base g : Nat} {next : Int} {v : Value} {l : List (Int × GO)} (h : RefAt w base g next v l) (hb : Below w.heap.size w W) : RefAt W base g next v l := ⟨h.lo, (hb.block _ (blk_lt h.blk)).trans h.blk, h.objs.below hb⟩
theorem RefAt.R {W : World} {base g : Nat} {next : Int} {v : Value} {l : List (Int × GO)} (h : RefAt W base g next v l) : ∃ A c, v = .slice A l.length c ∧ RefR W g next A c l := by
  obtain ⟨A, c, rfl, hc⟩ := h.objs.sl
  exact ⟨A, c, rfl, ⟨blk_lt h.blk, (blk_cell h.blk 0).trans rfl, (blk_cell h.blk 1).trans rfl, hc, h.objs.R⟩⟩
theorem RefAt.put {w5 w7 : World} {base g : Nat} {next : Int} {v v7 : Value} {l l' : List (Int × GO)} (h : RefAt w5 base g next v l) (hg : w5.grownBy w7 v.ownBlock) (h7 : ObjsAt w7 base v7 l') : RefAt (w7.setCell ⟨g, 1, none⟩ v7) base g next v7 l' ∧ w7.heap[g]? = some (.cells #[.int .i64 next, v] 104 (0, 0)) := by
  have hb : w7.heap[g]? = some (.cells #[.int .i64 next, v] 104 (0, 0)) := by
    obtain ⟨sl, -, h2, -⟩ := h.objs
    exact (hg.block g (blk_lt h.blk) (fun e => own_apart h2 h.blk (by decide) e.symm rfl)).trans h.blk
  exact ⟨⟨h.lo, (blk_set hb 1 _).trans rfl, h7.move hb (by decide) (by decide) (fun k hk => Below.heap_setCell _ _ _ _ hk)⟩, hb⟩
end
end Go.Proofs.YthifdofdoeaemaaGreatDoor.Wk
end
section
namespace Go.Proofs.YthifdofdoeaemaaGreatDoor.Wk
open Go.RowKit Go.Proofs.YthifdofdoeaemaaGreatDoorW.PrintWords Go.Proofs.YthifdofdoeaemaaGreatDoorW.PrintLast Go.Proofs.YthifdofdoeaemaaGreatDoorW.PrintMore
attribute [local go_sem] max2_int min2_int max_two min_two max_three min_three max_four min_four
set_option linter.unusedVariables false
set_option linter.unusedSimpArgs false
section
open Go.RowKit Go.Lib Go.Maps Go.Proofs.YthifdofdoeaemaaGreatDoorQ
attribute [local go_sem] Oper.semAt_some
noncomputable def rchL (l : List (Int × GO)) : List (Int × GO) := l.filter (fun x => @decide (Rch (grL l) x.1) (Classical.propDecidable _))
def NodesAt2 (W : World) (b1 b2 : Nat) (v : Value) (l : List (Int × GO)) : Prop := ∃ sl : List Value, sl.length = l.length ∧ W.ownsRow b1 50 3 v l.length (nodeC l sl) ∧
  ∀ (j : Nat) (x : Int × GO) (u : Value), l[j]? = some x → sl[j]? = some u → W.ownsRow b2 42 3 u x.2.links.length (cells3 x.2.links)
theorem NodesAt2.one {W : World} {b1 b2 : Nat} {v : Value} {l : List (Int × GO)} (h : NodesAt2 W b1 b2 v l) (hb : b2 ≤ b1) : NodesAt W b2 v l := by
  obtain ⟨sl, h1, h2, h3⟩ := h
  exact ⟨sl, h1, h2.mono hb, h3⟩
theorem NodesAt2.below {w W : World} {b1 b2 : Nat} {v : Value} {l : List (Int × GO)} (h : NodesAt2 w b1 b2 v l) (hb : Below w.heap.size w W) : NodesAt2 W b1 b2 v l := by
  obtain ⟨sl, h1, h2, h3⟩ := h
  exact ⟨sl, h1, row_same h2 (SameOn.of_below (S := fun _ => True) hb) (fun _ _ => trivial), fun j x u hx hu => row_same (h3 j x u hx hu) (SameOn.of_below (S := fun _ => True) hb) (fun _ _ => trivial)⟩
theorem NodesAt2.push {w1 w2 : World} {b1 b2 : Nat} {v v' : Value} {l : List (Int × GO)} {x : Int × GO} {sl : List Value} {u : Value} (h1 : sl.length = l.length)
    (h2 : w2.ownsRow b1 50 3 v' (l.length + 1) (nodeC l sl ++ [.int .i64 x.1, .int .i64 x.2.kind, u]))
    (h3 : ∀ (j : Nat) (y : Int × GO) (z : Value), l[j]? = some y → sl[j]? = some z → w1.ownsRow b2 42 3 z y.2.links.length (cells3 y.2.links)) (hu : w1.ownsRow b2 42 3 u x.2.links.length (cells3 x.2.links))
    (ho : w1.ownsRow b1 50 3 v l.length (nodeC l sl)) (hg : w1.grownBy w2 v.ownBlock) : NodesAt2 w2 b1 b2 v' (l ++ [x]) := by
  have keep : ∀ {n : Nat} {z : Value} {ys : List Value}, w1.ownsRow b2 42 3 z n ys → w2.ownsRow b2 42 3 z n ys := fun {n z ys} hz =>
    own_move hz (fun k hk => hg.block k (hz.lt k hk).2 (fun e => rows_apart hz ho (by decide) hk e.symm))
  refine ⟨sl ++ [u], by simp [h1], ?_, fun j y z hy hz => ?_⟩
  · rw [nodeC_snoc l sl x u h1, List.length_append]
    exact h2
  · by_cases hj : j < l.length
    · rw [List.getElem?_append_left hj] at hy
      rw [List.getElem?_append_left (by omega)] at hz
      exact keep (h3 j y z hy hz)
    · have hj2 : j = l.length := by
        have := (List.getElem?_eq_some_iff.1 hy).1
        simp at this
        omega
      subst hj2
      rw [List.getElem?_append_right (Nat.le_refl _)] at hy
      rw [List.getElem?_append_right (by omega)] at hz
      simp at hy
      rw [h1] at hz
      simp at hz
      subst hy
      subst hz
      exact keep hu
theorem node_pushed2 {w5 : World} {b1 b2 : Nat} {v : Value} {l : List (Int × GO)} (hv : NodesAt2 w5 b1 b2 v l) (hbase : b1 ≤ w5.heap.size) {x : Int × GO} {A5 : Option Addr} {c5 : Nat} (h5 : w5.ownsRow b2 42 3 (.slice A5 x.2.links.length c5) x.2.links.length (cells3 x.2.links)) (hl : l.length ≤ bound) :
    ∃ A7 c7 w7, (Builtin.append_ #[46, 46] 46 #[v, .slice (some ⟨w5.heap.size, 0, none⟩) 1 1]).run Tryz.prog (w5.alloc (.cells #[.int .i64 x.1, .int .i64 x.2.kind, .slice A5 x.2.links.length c5] 50 (0, 0))) = .ok (.slice A7 (l.length + 1) c7) w7 ∧ NodesAt2 w7 b1 b2 (.slice A7 (l.length + 1) c7) (l ++ [x]) ∧ Below b1 w5 w7 := by
  obtain ⟨i0, hi0, hz0, hz1, hz2⟩ := info_parts (P := Tryz.prog) (e := 50) (z := .agg #[.int .i64 0, .int .i64 0, .slice none 0 0]) (size := 3) (bytes := 40) (by kernel_rfl)
  have hb6 : Below w5.heap.size w5 (w5.alloc (.cells #[.int .i64 x.1, .int .i64 x.2.kind, .slice A5 x.2.links.length c5] 50 (0, 0))) := below_alloc (Below.refl _ _) _
  obtain ⟨sl, n1, n2, n3⟩ := hv.below hb6
  have hnew : (w5.alloc (.cells #[.int .i64 x.1, .int .i64 x.2.kind, .slice A5 x.2.links.length c5] 50 (0, 0))).ownsRow w5.heap.size 50 3 (.slice (some ⟨w5.heap.size, 0, none⟩) 1 1) 1 [.int .i64 x.1, .int .i64 x.2.kind, .slice A5 x.2.links.length c5] := ⟨rfl, .inr ⟨_, 1, _, rfl, Nat.le_refl _, World.alloc_heap_new _ _, Nat.le_refl _, by decide, rfl, rfl⟩⟩
  obtain ⟨v7, w7, hr7, ho7, hg7⟩ := run_append_row (P := Tryz.prog) _ b1 w5.heap.size 46 46 50 i0 (.agg #[.int .i64 0, .int .i64 0, .slice none 0 0]) 3 40 Tryz.underlying46 hi0 hz0 hz1 hz2 rfl (by decide) v _ _ 1 _ _ n2 hnew (by simp [Value.oneCell']) (by unfold bound at hl; unfold maxLen; omega) (by unfold bound at hl; omega) (by have := hb6.size; omega)
  have hu5 := row_same h5 (SameOn.of_below (S := fun _ => True) hb6) (fun _ _ => trivial)
  have hpush := NodesAt2.push (x := x) n1 ho7 n3 hu5 n2 hg7
  obtain ⟨A7, c7, rfl⟩ := own_sl3 ho7
  exact ⟨A7, c7, w7, hr7, hpush, (hb6.mono hbase).grown hg7 (by have := hb6.size; omega) (own_base n2)⟩
theorem filter_snoc {p : Int × GO → Bool} {l : List (Int × GO)} {i : Nat} {x : Int × GO} (hx : l[i]? = some x) : (l.take (i + 1)).filter p = (l.take i).filter p ++ (if p x then [x] else []) := by
  obtain ⟨h1, e1⟩ := List.getElem?_eq_some_iff.1 hx
  rw [List.take_succ_eq_append_getElem h1, e1, List.filter_append]
  congr 1
  simp only [List.filter_cons, List.filter_nil]
set_option maxHeartbeats 8000000 in
set_option maxRecDepth 100000 in
theorem refReach_calls (w : World) (g : Nat) (next : Int) (A : Option Addr) (c : Nat) (l : List (Int × GO)) (hr : RefR w g next A c l) (ha : Asc l) (hp : ∀ x ∈ l, 0 < x.1) (h1 : has l 1) (hb : l.length ≤ 1000) (hlb : ∀ x ∈ l, x.2.links.length ≤ bound) :
    Calls Tryz.prog 60 #[.pointer (some ⟨g, 0, none⟩)] w fun e w' => ∃ v, e = .returned v ∧ NodesAt w' w.heap.size v (rchL l) ∧ Below w.heap.size w w' := by
  have HR := Aside0.mk hr
  have HA := Aside0.mk ha
  have HP := Aside0.mk hp
  have H1 := Aside0.mk h1
  have HB := Aside0.mk hb
  have HLB := Aside0.mk hlb
  obtain ⟨p, hpd⟩ : ∃ p : Int × GO → Bool, p = (fun x => @decide (Rch (grL l) x.1) (Classical.propDecidable _)) := ⟨_, rfl⟩
  have HPD := Aside0.mk hpd
  have HPX : Aside0 (∀ x, p x = true ↔ Rch (grL l) x.1) := ⟨fun x => by rw [hpd]; simp⟩
  clear hr ha hp h1 hb hlb hpd
  go_enter Tryz.func60, Tryz.ntmps60
  go_upto_region 3 with (go_at_call 59; refine (refNodes_calls _ g next A c l HR.out (by have := HB.out; unfold bound; omega) HLB.out).mono ?_; rintro e_ w2 ⟨v4, rfl, hn2, hb2⟩; obtain ⟨A4, c4, rfl⟩ := nodes_sl hn2; have HN2 := Aside0.mk hn2; have HB2 := Aside0.mk hb2; clear hn2 hb2)
  go_upto_region 4 with (go_at_call 55; refine (refReached_calls _ g next A c l (HR.out.below HB2.out) HA.out HP.out H1.out HB.out HLB.out).mono ?_; rintro e_ w3 ⟨wb, bl, rfl, hwb, hbl, hbll, hrch, hb3⟩; have HBLS := Aside0.mk hbl; have HBLL := Aside0.mk hbll; have HRCH := Aside0.mk hrch; have HB3 := Aside0.mk (HB2.out.trans (hb3.mono HB2.out.size)); have HN3 := Aside0.mk (HN2.out.below hb3); have HWB := Aside0.mk hwb; clear hwb hbl hbll hrch hb3)
  go_upto_region 5 with (fail)
  go_loopg [3, 6] l.length (fun kq v3 v6 W => ∃ (i : Nat) (iv : Int), v6 = .int .i64 iv ∧ Aside0 (iv = (i : Int)) ∧ Aside0 (i ≤ l.length ∧ l.length - i ≤ kq) ∧ Aside0 (NodesAt2 W w3.heap.size w.heap.size v3 ((l.take i).filter p)) ∧ Aside0 (Below w3.heap.size w3 W))
  case atStart => exact ⟨0, 0, rfl, ⟨rfl⟩, ⟨by omega, by omega⟩, ⟨⟨[], rfl, World.ownsRow_nil _ _ _ _, fun j u v hx _ => by simp at hx⟩⟩, ⟨Below.refl _ _⟩⟩
  case round =>
    obtain ⟨i, iv, rfl, HIV, HI, HO, HW⟩ := hrel
    by_cases hlt : i < l.length
    · obtain ⟨x, hx⟩ : ∃ x, l[i]? = some x := ⟨_, List.getElem?_eq_getElem hlt⟩
      have hNW := HN3.out.below HW.out
      obtain ⟨g4, c4', Ax, cx, e4, hg4, x0, x1, x2, xr⟩ := node_row hNW hx
      obtain ⟨rfl, rfl⟩ : A4 = some ⟨g4, 0, none⟩ ∧ c4 = c4' := by simpa using e4
      obtain ⟨bi, hbi⟩ : ∃ bi, bl[i]? = some bi := ⟨_, List.getElem?_eq_getElem (by have := HBLL.out; omega)⟩
      have hbl : wr.cell? ⟨wb, i, none⟩ = some (.bool bi) := (HW.out.cell (World.block_lt_of_cell? _ _ (HBLS.out.cell hbi))).trans (HBLS.out.cell hbi)
      have hbp : p x = bi := by
        have h1 := HRCH.out i x hx
        rw [hbi, ← HPX.out x] at h1
        cases bi <;> cases hq : p x <;> simp_all
      have HXR := Aside0.mk xr
      have q1 : decide (iv < (l.length : Int)) = true := decide_eq_true (by have := HIV.out; omega)
      have q2 : (iv < (l.length : Int)) = True := eq_true (by have := HIV.out; omega)
      have q3 : (0 : Int) ≤ iv := by have := HIV.out; omega
      have q4 : iv.toNat = i := by have := HIV.out; omega
      have w1_ : wrap64 (iv + 1) = iv + 1 := wrap_ok9 _ (by omega) (by have := HIV.out; have := HB.out; omega)
      have HLT := Aside0.mk hlt
      have hfs := filter_snoc (p := p) hx
      rw [hbp] at hfs
      have HFS := Aside0.mk hfs
      have HFL : Aside0 (((l.take i).filter p).length ≤ 1000) := ⟨by have h1 := List.length_filter_le p (l.take i); rw [List.length_take] at h1; have := HB.out; omega⟩
      clear hx hlt xr hNW e4 hbi hbp hfs hg4
      cases bi
      · go_wp2
        clear q4
        go_roundg (gk - 1)
        case measure => have := HI.out; have := HLT.out; omega
        case rel => exact ⟨i + 1, iv + 1, by first | rfl | rw [w1_], ⟨by have := HIV.out; omega⟩, ⟨by have := HLT.out; omega, by have := HI.out; omega⟩, ⟨by have := HFS.out; simp only [Bool.false_eq_true, if_false, List.append_nil] at this; rw [this]; exact HO.out⟩, HW⟩
      · obtain ⟨A7, c7, w7, hr7, hpush, hb7⟩ := node_pushed2 HO.out HW.out.size HXR.out (by have := HFL.out; unfold bound; omega)
        have hf2 := HFS.out
        simp only [if_true] at hf2
        rw [← hf2] at hpush
        have HR7 := Aside0.mk hr7
        have HPUSH := Aside0.mk hpush
        have HW7 := Aside0.mk (HW.out.trans hb7)
        clear hr7 hpush hb7 hf2
        go_wp2_with (at_builtin; refine wpList_append_run rfl _ _ 46 rfl rfl rfl HR7.out ?_)
        clear q4
        go_roundg (gk - 1)
        case measure => have := HI.out; have := HLT.out; omega
        case rel => exact ⟨i + 1, iv + 1, by first | rfl | rw [w1_], ⟨by have := HIV.out; omega⟩, ⟨by have := HLT.out; omega, by have := HI.out; omega⟩, HPUSH, HW7⟩
    · have q1 : decide (iv < (l.length : Int)) = false := decide_eq_false (by have := HIV.out; omega)
      have q2 : (iv < (l.length : Int)) = False := eq_false (by have := HIV.out; omega)
      have HLT := Aside0.mk hlt
      clear hlt
      go_wp2
      go_ret
      refine ⟨_, rfl, ?_, HB3.out.trans (HW.out.mono HB3.out.size)⟩
      have h9 := HO.out
      rw [List.take_of_length_le (by have := HLT.out; omega), HPD.out] at h9
      exact h9.one HB3.out.size
end
end Go.Proofs.YthifdofdoeaemaaGreatDoor.Wk
end
section
namespace Go.Proofs.YthifdofdoeaemaaGreatDoor.Wk
open Go.RowKit Go.Proofs.YthifdofdoeaemaaGreatDoorW.PrintWords Go.Proofs.YthifdofdoeaemaaGreatDoorW.PrintLast Go.Proofs.YthifdofdoeaemaaGreatDoorW.PrintMore
attribute [local go_sem] max2_int min2_int max_two min_two max_three min_three max_four min_four
set_option linter.unusedVariables false
set_option linter.unusedSimpArgs false
section
open Go.RowKit Go.Lib Go.Maps Go.Proofs.YthifdofdoeaemaaGreatDoorQ
attribute [local go_sem] Oper.semAt_some
set_option maxHeartbeats 4000000 in
set_option maxRecDepth 100000 in
theorem links_sameR (w : World) (A1 A2 : Option Addr) (c1 c2 : Nat) (l : List Lk) (h1 : LinksR w A1 l) (h2 : LinksR w A2 l) (hb : l.length ≤ bound) :
    Calls Tryz.prog 58 #[.slice A1 l.length c1, .slice A2 l.length c2] w fun e w' => e = .returned (.bool true) ∧ ∃ m, w' = w.drewN m := by
  have H1 := Aside0.mk h1
  have H2 := Aside0.mk h2
  have HB := Aside0.mk hb
  clear h1 h2 hb
  go_enter Tryz.func58, Tryz.ntmps58
  go_wp2
  go_loopg [5] l.length (fun kq v5 W => ∃ (j m : Nat) (jv : Int), v5 = .int .i64 jv ∧ Aside0 (jv = (j : Int)) ∧ Aside0 (j ≤ l.length ∧ l.length - j ≤ kq) ∧ W = w.drewN m)
  case atStart => exact ⟨0, 0, 0, rfl, ⟨rfl⟩, ⟨by omega, by omega⟩, rfl⟩
  case round =>
    obtain ⟨j, m, jv, rfl, HJV, HJ, rfl⟩ := hrel
    by_cases hlt : j < l.length
    · obtain ⟨k, hk⟩ : ∃ k, l[j]? = some k := ⟨_, List.getElem?_eq_getElem hlt⟩
      obtain ⟨g1, o1, rfl, -, k0, k1, k2⟩ := H1.out.at hk
      obtain ⟨g2, o2, rfl, -, e0, e1, e2⟩ := H2.out.at hk
      have q1 : decide (jv < (l.length : Int)) = true := decide_eq_true (by have := HJV.out; omega)
      have q2 : (jv < (l.length : Int)) = True := eq_true (by have := HJV.out; omega)
      have q3 : (0 : Int) ≤ jv := by have := HJV.out; omega
      have q4 : jv.toNat = j := by have := HJV.out; omega
      have w1_ : wrap64 (jv + 1) = jv + 1 := wrap_ok9 _ (by omega) (by have := HJV.out; have := HB.out; unfold bound at this; omega)
      have HLT := Aside0.mk hlt
      clear hk hlt
      go_upto_region 6 with (fail)
      go_big_quiet (fail)
      go_wp2
      clear q4
      go_roundg (gk - 1)
      case measure => have := HJ.out; have := HLT.out; omega
      case rel => exact ⟨j + 1, m + nq, jv + 1, by first | rfl | rw [w1_], ⟨by have := HJV.out; omega⟩, ⟨by have := HLT.out; omega, by have := HJ.out; omega⟩, rfl⟩
    · have q1 : decide (jv < (l.length : Int)) = false := decide_eq_false (by have := HJV.out; omega)
      have q2 : (jv < (l.length : Int)) = False := eq_false (by have := HJV.out; omega)
      go_wp2
      go_ret
      exact ⟨rfl, _, rfl⟩
set_option maxHeartbeats 4000000 in
set_option maxRecDepth 100000 in
theorem nodes_sameR (w : World) (A1 A2 : Option Addr) (c1 c2 : Nat) (l : List (Int × GO)) (h1 : NodesR w A1 l) (h2 : NodesR w A2 l) (hb : l.length ≤ bound) (hlb : ∀ x ∈ l, x.2.links.length ≤ bound) :
    Calls Tryz.prog 30 #[.slice A1 l.length c1, .slice A2 l.length c2] w fun e w' => e = .returned (.bool true) ∧ ∃ m, w' = w.drewN m := by
  have H1 := Aside0.mk h1
  have H2 := Aside0.mk h2
  have HB := Aside0.mk hb
  have HLB := Aside0.mk hlb
  clear h1 h2 hb hlb
  go_enter Tryz.func30, Tryz.ntmps30
  go_wp2
  go_loopg [5] l.length (fun kq v5 W => ∃ (j m : Nat) (jv : Int), v5 = .int .i64 jv ∧ Aside0 (jv = (j : Int)) ∧ Aside0 (j ≤ l.length ∧ l.length - j ≤ kq) ∧ Aside0 (W = w.drewN m))
  case atStart => exact ⟨0, 0, 0, rfl, ⟨rfl⟩, ⟨by omega, by omega⟩, ⟨rfl⟩⟩
  case round =>
    obtain ⟨j, m, jv, rfl, HJV, HJ, HW⟩ := hrel
    by_cases hlt : j < l.length
    · obtain ⟨x, hx⟩ : ∃ x, l[j]? = some x := ⟨_, List.getElem?_eq_getElem hlt⟩
      obtain ⟨g1, o1, B1, d1, rfl, -, x1, x2, x3, -, r1⟩ := H1.out.at hx
      obtain ⟨g2, o2, B2, d2, rfl, -, y1, y2, y3, -, r2⟩ := H2.out.at hx
      replace x1 : wr.cell? ⟨g1, o1 + j * 3, none⟩ = some (.int .i64 x.1) := by rw [HW.out]; exact x1
      replace x2 : wr.cell? ⟨g1, o1 + j * 3 + 1, none⟩ = some (.int .i64 x.2.kind) := by rw [HW.out]; exact x2
      replace x3 : wr.cell? ⟨g1, o1 + j * 3 + 2, none⟩ = some (.slice B1 x.2.links.length d1) := by rw [HW.out]; exact x3
      replace y1 : wr.cell? ⟨g2, o2 + j * 3, none⟩ = some (.int .i64 x.1) := by rw [HW.out]; exact y1
      replace y2 : wr.cell? ⟨g2, o2 + j * 3 + 1, none⟩ = some (.int .i64 x.2.kind) := by rw [HW.out]; exact y2
      replace y3 : wr.cell? ⟨g2, o2 + j * 3 + 2, none⟩ = some (.slice B2 x.2.links.length d2) := by rw [HW.out]; exact y3
      have HR1 : Aside0 (LinksR wr B1 x.2.links) := ⟨by rw [HW.out]; exact r1.below (below_dn2 _ _)⟩
      have HR2 : Aside0 (LinksR wr B2 x.2.links) := ⟨by rw [HW.out]; exact r2.below (below_dn2 _ _)⟩
      have HXM := Aside0.mk (List.mem_of_getElem? hx)
      have q1 : decide (jv < (l.length : Int)) = true := decide_eq_true (by have := HJV.out; omega)
      have q2 : (jv < (l.length : Int)) = True := eq_true (by have := HJV.out; omega)
      have q3 : (0 : Int) ≤ jv := by have := HJV.out; omega
      have q4 : jv.toNat = j := by have := HJV.out; omega
      have w1_ : wrap64 (jv + 1) = jv + 1 := wrap_ok9 _ (by omega) (by have := HJV.out; have := HB.out; unfold bound at this; omega)
      have HLT := Aside0.mk hlt
      clear hx hlt r1 r2
      go_upto_region 6 with (fail)
      go_big_quiet ((go_at_call 58; exact Calls.quiet_of (links_sameR _ _ _ _ _ _ (HR1.out.below (below_dn2 _ _)) (HR2.out.below (below_dn2 _ _)) (HLB.out _ HXM.out))))
      go_wp2
      clear q4
      go_roundg (gk - 1)
      case measure => have := HJ.out; have := HLT.out; omega
      case rel => exact ⟨j + 1, m + nq, jv + 1, by first | rfl | rw [w1_], ⟨by have := HJV.out; omega⟩, ⟨by have := HLT.out; omega, by have := HJ.out; omega⟩, ⟨by rw [HW.out, World.drewN_drewN]⟩⟩
    · have q1 : decide (jv < (l.length : Int)) = false := decide_eq_false (by have := HJV.out; omega)
      have q2 : (jv < (l.length : Int)) = False := eq_false (by have := HJV.out; omega)
      go_wp2
      go_ret
      exact ⟨rfl, m, HW.out⟩
end
end Go.Proofs.YthifdofdoeaemaaGreatDoor.Wk
end
section
namespace Go.Proofs.YthifdofdoeaemaaGreatDoor.Wk
open Go.RowKit Go.Proofs.YthifdofdoeaemaaGreatDoorW.PrintWords Go.Proofs.YthifdofdoeaemaaGreatDoorW.PrintLast Go.Proofs.YthifdofdoeaemaaGreatDoorW.PrintMore
attribute [local go_sem] max2_int min2_int max_two min_two max_three min_three max_four min_four
set_option linter.unusedVariables false
set_option linter.unusedSimpArgs false
section
open Go.RowKit Go.Lib Go.Maps Go.Proofs.YthifdofdoeaemaaGreatDoorQ
attribute [local go_sem] Oper.semAt_some
def LkShape (w W : World) : Prop := ∀ (k : Nat) (cs : Array Value), w.heap[k]? = some (.cells cs 42 (0, 0)) → ∃ cs' : Array Value, W.heap[k]? = some (.cells cs' 42 (0, 0)) ∧ cs'.size = cs.size
theorem LkShape.refl (w : World) : LkShape w w := fun k cs h => ⟨cs, h, rfl⟩
theorem LkShape.set {w W : World} (h : LkShape w W) {g : Nat} {cs : Array Value} (hg : W.heap[g]? = some (.cells cs 42 (0, 0))) (i : Nat) (u : Value) : LkShape w (W.setCell ⟨g, i, none⟩ u) := fun k c hk => by
  obtain ⟨c', h1, h2⟩ := h k c hk
  by_cases e : k = g
  · subst e
    rw [hg] at h1
    cases h1
    exact ⟨_, blk_set hg i u, by rw [Array.size_setIfInBounds]; exact h2⟩
  · exact ⟨c', (Below.heap_setCell _ _ _ _ e).trans h1, h2⟩
theorem spoil_row {w W : World} {base n c : Nat} {A : Option Addr} {l : List Lk} (hr : w.ownsRow base 42 3 (.slice A n c) n (cells3 l)) (hn : n = l.length) (hs : LkShape w W) {j : Nat} (hj : j < l.length) :
    ∃ (g : Nat) (cs : Array Value), A = some ⟨g, 0, none⟩ ∧ base ≤ g ∧ g < w.heap.size ∧ W.heap[g]? = some (.cells cs 42 (0, 0)) ∧ j * 3 + 2 < cs.size := by
  rcases hr.2 with ⟨h4, h5⟩ | ⟨g, cap, cur, h4, h5, h6, h7, h8, h9, -⟩
  · omega
  · cases h4
    obtain ⟨cs, h10, h11⟩ := hs g cur h6
    exact ⟨g, cs, rfl, h5, blk_lt h6, h10, by rw [h11, h9]; omega⟩
theorem cell_heap {w W : World} {b : Nat} (h : W.heap[b]? = w.heap[b]?) {cs : Array Value} {t : TypeId} (hb : w.heap[b]? = some (.cells cs t (0, 0))) (i : Nat) : W.cell? ⟨b, i, none⟩ = w.cell? ⟨b, i, none⟩ := by
  rw [blk_cell hb, blk_cell (h.trans hb)]
theorem NodesAt.typed {W : World} {base g n c : Nat} {l : List (Int × GO)} (h : NodesAt W base (.slice (some ⟨g, 0, none⟩) n c) l) : ∃ cs, W.heap[g]? = some (.cells cs 50 (0, 0)) := by
  obtain ⟨sl, -, h2, -⟩ := h
  exact own_typed h2 g rfl
theorem rchL_all {l : List (Int × GO)} (h : ∀ x ∈ l, Rch (grL l) x.1) : rchL l = l := by
  unfold rchL
  rw [List.filter_eq_self]
  intro x hx
  simpa using h x hx
theorem rch_len (l : List (Int × GO)) : (rchL l).length ≤ l.length := List.length_filter_le _ _
theorem rch_mem {l : List (Int × GO)} {x : Int × GO} (h : x ∈ rchL l) : x ∈ l := (List.mem_filter.1 h).1
set_option maxHeartbeats 16000000 in
set_option maxRecDepth 100000 in
theorem alike_calls (w : World) (vg : Value) (next : Int) (g : Nat) (A : Option Addr) (c : Nat) (l : List (Int × GO)) (hr : RefR w g next A c l) (ha : Asc l) (hp : ∀ x ∈ l, 0 < x.1) (h1 : has l 1) (hb : l.length ≤ 1000) (hlb : ∀ x ∈ l, x.2.links.length ≤ bound)
    (hN : ∀ W, Below w.heap.size w W → Calls Tryz.prog 23 #[vg] W fun e w' => ∃ v, e = .returned v ∧ NodesAt w' W.heap.size v l ∧ Below W.heap.size W w')
    (hX : ∀ W, Below w.heap.size w W → Calls Tryz.prog 24 #[vg] W fun e w' => e = .returned (.int .i64 next) ∧ w' = W)
    (hR : ∀ W, Below w.heap.size w W → Calls Tryz.prog 32 #[vg] W fun e w' => ∃ v, e = .returned v ∧ NodesAt w' W.heap.size v (rchL l) ∧ Below W.heap.size W w') :
    Calls Tryz.prog 31 #[vg, .pointer (some ⟨g, 0, none⟩)] w fun e w' => e = .returned (.bool true) ∧ Below w.heap.size w w' := by
  have HR := Aside0.mk hr
  have HA := Aside0.mk ha
  have HP := Aside0.mk hp
  have H1 := Aside0.mk h1
  have HB := Aside0.mk hb
  have HLB := Aside0.mk hlb
  have HBD : Aside0 (l.length ≤ bound) := ⟨by unfold bound; omega⟩
  have HNN := Aside0.mk hN
  have HXX := Aside0.mk hX
  have HRR := Aside0.mk hR
  clear hr ha hp h1 hb hlb hN hX hR
  go_enter Tryz.func31, Tryz.ntmps31
  go_upto_region 2 with (go_at_call 23; refine (HNN.out w (Below.refl _ _)).mono ?_; rintro e_ w1 ⟨v5, rfl, hn5, hb1⟩; obtain ⟨A5, c5, rfl⟩ := nodes_sl hn5; have HN5 := Aside0.mk hn5; have HB1 := Aside0.mk hb1; clear hn5 hb1)
  have hS : w1.drew.cell? ⟨g, 0, none⟩ = some (.int .i64 next) ∧ Below w1.heap.size w1 w1.drew := ⟨(HR.out.below HB1.out).c0, below_drew (Below.refl _ _)⟩
  refine start_ (n := 22) (S := fun W' => W'.cell? ⟨g, 0, none⟩ = some (.int .i64 next) ∧ Below w1.heap.size w1 W') (ds := []) #[false, false, false, false, false, false, false, false, false, false, false, false, false, false, false, false, false, false, false, false, false, false] (by kernel_rfl) rfl rfl hS (fun hHeld => ?_)
  refine pure_ (i := 0) (N := some 10) (v := ?_) (a' := ?_) (bb 22 1) rfl rfl (by kernel_rfl) (fun _ _ _ h => h) (Or.inl ⟨by rfl, ?_⟩) ?_ ?_
  rotate_left
  · intro w'
    go_simp
    with_reducible rfl
  rotate_left
  · simp only [Act.put, sa, sz, ss, i64_w, i32_w]
    rfl
  refine pure_ (i := 2) (N := some 12) (v := ?_) (a' := ?_) (bb 22 5) rfl rfl (by kernel_rfl) (fun _ _ _ h => h) (Or.inl ⟨by rfl, ?_⟩) ?_ ?_
  rotate_left
  · intro w'
    go_simp
    with_reducible rfl
  rotate_left
  · simp only [Act.put, sa, sz, ss, i64_w, i32_w]
    rfl
  refine pure_ (i := 3) (N := some 13) (v := ?_) (a' := ?_) (bb 22 13) rfl rfl (by kernel_rfl) (fun _ _ _ h => h) (Or.inl ⟨by rfl, ?_⟩) ?_ ?_
  rotate_left
  · intro w'
    go_simp
    with_reducible rfl
  rotate_left
  · simp only [Act.put, sa, sz, ss, i64_w, i32_w]
    rfl
  refine pure_ (i := 4) (N := some 14) (v := ?_) (a' := ?_) (bb 22 29) rfl rfl (by kernel_rfl) (fun _ _ _ h => h) (Or.inl ⟨by rfl, ?_⟩) ?_ ?_
  rotate_left
  · intro w'
    go_simp
    with_reducible rfl
  rotate_left
  · simp only [Act.put, sa, sz, ss, i64_w, i32_w]
    rfl
  refine take_ (i := 5) (N := some 15) (v := ?_) (a' := ?_) (bb 22 61) rfl rfl (by kernel_rfl) (fun _ _ _ h => h) (Or.inl ⟨by rfl, ?_⟩) hHeld ?_ ?_
  rotate_left
  · rintro w' ⟨s1_, s2_⟩
    go_simp
    with_reducible rfl
  rotate_left
  · simp only [Act.put, sa, sz, ss, i64_w, i32_w]
    rfl
  refine one_ (i := 1) (N := some 11) (bb 22 63) rfl rfl (by kernel_rfl) (by decide) (fun K hK => ?_)
  skip
  refine goes_ Tryz.func24 (by kernel_rfl) rfl #[vg] (by rfl) rfl rfl (by (simp only [List.map_toArray, List.map_cons, List.map_nil]); rfl) ?_
  refine (HXX.out _ (HB1.out.trans (hHeld.2.mono HB1.out.size))).mono ?_
  rintro e_ w2 ⟨rfl, h0⟩
  obtain rfl := h0.symm
  refine ⟨_, rfl, ?_⟩
  refine hK.out _ _ hHeld (fun hHeld => ?_)
  clear hK K
  refine norm_ (a' := ?_) ?_ ?_
  rotate_left
  · show Act.put _ (some 11) _ = _
    simp only [Act.put, sa, sz, ss, i64_w, i32_w]
    rfl
  refine pure_ (i := 6) (N := some 16) (v := ?_) (a' := ?_) (bb 22 127) rfl rfl (by kernel_rfl) (fun _ _ _ h => h) (Or.inl ⟨by rfl, ?_⟩) ?_ ?_
  rotate_left
  · intro w'
    go_simp
    with_reducible rfl
  rotate_left
  · simp only [Act.put, sa, sz, ss, i64_w, i32_w]
    rfl
  refine pure_ (i := 7) (N := some 17) (v := ?_) (a' := ?_) (bb 22 255) rfl rfl (by kernel_rfl) (fun _ _ _ h => h) (Or.inl ⟨by rfl, ?_⟩) ?_ ?_
  rotate_left
  · intro w'
    go_simp
    with_reducible rfl
  rotate_left
  · simp only [Act.put, sa, sz, ss, i64_w, i32_w]
    rfl
  refine pure_ (i := 8) (N := some 18) (v := ?_) (a' := ?_) (bb 22 511) rfl rfl (by kernel_rfl) (fun _ _ _ h => h) (Or.inl ⟨by rfl, ?_⟩) ?_ ?_
  rotate_left
  · intro w'
    go_simp
    with_reducible rfl
  rotate_left
  · simp only [Act.put, sa, sz, ss, i64_w, i32_w]
    rfl
  refine pure_ (i := 9) (N := some 19) (v := ?_) (a' := ?_) (bb 22 1023) rfl rfl (by kernel_rfl) (fun _ _ _ h => h) (Or.inl ⟨by rfl, ?_⟩) ?_ ?_
  rotate_left
  · intro w'
    go_simp
    with_reducible rfl
  rotate_left
  · simp only [Act.put, sa, sz, ss, i64_w, i32_w]
    rfl
  have HB2 : Aside0 (Below w.heap.size w w1.drew) := ⟨HB1.out.trans (hHeld.2.mono HB1.out.size)⟩
  have HN2 := Aside0.mk (HN5.out.below hHeld.2)
  refine one_ (i := 10) (N := some 20) (bb 22 2047) rfl rfl (by kernel_rfl) (by decide) (fun K hK => ?_)
  skip
  refine goes_ Tryz.func59 (by kernel_rfl) rfl #[.pointer (some ⟨g, 0, none⟩)] (by rfl) rfl rfl (by (simp only [List.map_toArray, List.map_cons, List.map_nil]); rfl) ?_
  refine (refNodes_calls _ g next A c l (HR.out.below HB2.out) HBD.out HLB.out).mono ?_
  rintro e_ w3 ⟨v20, rfl, hn3, hb_⟩
  obtain ⟨A6, c6, rfl⟩ := nodes_sl hn3
  refine ⟨_, rfl, ?_⟩
  refine hK.out _ _ ⟨(hb_.cell (World.block_lt_of_cell? _ _ hHeld.1)).trans hHeld.1, hHeld.2.trans (hb_.mono hHeld.2.size)⟩ (fun hHeld => ?_)
  clear hK K
  refine norm_ (a' := ?_) ?_ ?_
  rotate_left
  · show Act.put _ (some 20) _ = _
    simp only [Act.put, sa, sz, ss, i64_w, i32_w]
    rfl
  have HB3 : Aside0 (Below w.heap.size w w3) := ⟨HB2.out.trans (hb_.mono HB2.out.size)⟩
  have HN3 := Aside0.mk (HN2.out.below hb_)
  have HM3 := Aside0.mk hn3
  clear hb_ hn3
  refine one_ (i := 11) (N := some 21) (bb 22 4095) rfl rfl (by kernel_rfl) (by decide) (fun K hK => ?_)
  skip
  refine goes_ Tryz.func30 (by kernel_rfl) rfl #[.slice A5 l.length c5, .slice A6 l.length c6] (by rfl) rfl rfl (by (simp only [List.map_toArray, List.map_cons, List.map_nil]); rfl) ?_
  refine (nodes_sameR _ A5 A6 c5 c6 l (nodes_own HN3.out) (nodes_own HM3.out) HBD.out HLB.out).mono ?_
  rintro e_ w4 ⟨rfl, m4, hw4⟩
  have hb_ := below_dn2 w3 m4
  rw [← hw4] at hb_
  refine ⟨_, rfl, ?_⟩
  refine hK.out _ _ ⟨(hb_.cell (World.block_lt_of_cell? _ _ hHeld.1)).trans hHeld.1, hHeld.2.trans (hb_.mono hHeld.2.size)⟩ (fun hHeld => ?_)
  clear hK K
  refine norm_ (a' := ?_) ?_ ?_
  rotate_left
  · show Act.put _ (some 21) _ = _
    simp only [Act.put, sa, sz, ss, i64_w, i32_w]
    rfl
  have HB4 : Aside0 (Below w.heap.size w w4) := ⟨HB3.out.trans (hb_.mono HB3.out.size)⟩
  have HN4 := Aside0.mk (HN3.out.below hb_)
  clear hb_ hw4
  refine pure_ (i := 12) (N := some 22) (v := ?_) (a' := ?_) (bb 22 8191) rfl rfl (by kernel_rfl) (fun _ _ _ h => h) (Or.inl ⟨by rfl, ?_⟩) ?_ ?_
  rotate_left
  · intro w'
    go_simp
    with_reducible rfl
  rotate_left
  · simp only [Act.put, sa, sz, ss, i64_w, i32_w]
    rfl
  refine pure_ (i := 13) (N := some 23) (v := ?_) (a' := ?_) (bb 22 16383) rfl rfl (by kernel_rfl) (fun _ _ _ h => h) (Or.inl ⟨by rfl, ?_⟩) ?_ ?_
  rotate_left
  · intro w'
    go_simp
    with_reducible rfl
  rotate_left
  · simp only [Act.put, sa, sz, ss, i64_w, i32_w]
    rfl
  refine pure_ (i := 14) (N := some 24) (v := ?_) (a' := ?_) (bb 22 32767) rfl rfl (by kernel_rfl) (fun _ _ _ h => h) (Or.inl ⟨by rfl, ?_⟩) ?_ ?_
  rotate_left
  · intro w'
    go_simp
    with_reducible rfl
  rotate_left
  · simp only [Act.put, sa, sz, ss, i64_w, i32_w]
    rfl
  refine pure_ (i := 15) (N := some 25) (v := ?_) (a' := ?_) (bb 22 65535) rfl rfl (by kernel_rfl) (fun _ _ _ h => h) (Or.inl ⟨by rfl, ?_⟩) ?_ ?_
  rotate_left
  · intro w'
    go_simp
    with_reducible rfl
  rotate_left
  · simp only [Act.put, sa, sz, ss, i64_w, i32_w]
    rfl
  refine pure_ (i := 17) (N := some 27) (v := ?_) (a' := ?_) (bb 22 196607) rfl rfl (by kernel_rfl) (fun _ _ _ h => h) (Or.inl ⟨by rfl, ?_⟩) ?_ ?_
  rotate_left
  · intro w'
    go_simp
    with_reducible rfl
  rotate_left
  · simp only [Act.put, sa, sz, ss, i64_w, i32_w]
    rfl
  refine one_ (i := 16) (N := some 26) (bb 22 262143) rfl rfl (by kernel_rfl) (by decide) (fun K hK => ?_)
  skip
  refine goes_ Tryz.func32 (by kernel_rfl) rfl #[vg] (by rfl) rfl rfl (by (simp only [List.map_toArray, List.map_cons, List.map_nil]); rfl) ?_
  refine (HRR.out _ HB4.out).mono ?_
  rintro e_ w5 ⟨v26, rfl, hn5, hb_⟩
  obtain ⟨A7, c7, rfl⟩ := nodes_sl hn5
  refine ⟨_, rfl, ?_⟩
  refine hK.out _ _ ⟨(hb_.cell (World.block_lt_of_cell? _ _ hHeld.1)).trans hHeld.1, hHeld.2.trans (hb_.mono hHeld.2.size)⟩ (fun hHeld => ?_)
  clear hK K
  refine norm_ (a' := ?_) ?_ ?_
  rotate_left
  · show Act.put _ (some 26) _ = _
    simp only [Act.put, sa, sz, ss, i64_w, i32_w]
    rfl
  have HB5 : Aside0 (Below w.heap.size w w5) := ⟨HB4.out.trans (hb_.mono HB4.out.size)⟩
  have HN5 := Aside0.mk (HN4.out.below hb_)
  have HM5 := Aside0.mk hn5
  clear hb_ hn5
  refine one_ (i := 18) (N := some 28) (bb 22 524287) rfl rfl (by kernel_rfl) (by decide) (fun K hK => ?_)
  skip
  refine goes_ Tryz.func60 (by kernel_rfl) rfl #[.pointer (some ⟨g, 0, none⟩)] (by rfl) rfl rfl (by (simp only [List.map_toArray, List.map_cons, List.map_nil]); rfl) ?_
  refine (refReach_calls _ g next A c l (HR.out.below HB5.out) HA.out HP.out H1.out HB.out HLB.out).mono ?_
  rintro e_ w6 ⟨v28, rfl, hn6, hb_⟩
  obtain ⟨A8, c8, rfl⟩ := nodes_sl hn6
  refine ⟨_, rfl, ?_⟩
  refine hK.out _ _ ⟨(hb_.cell (World.block_lt_of_cell? _ _ hHeld.1)).trans hHeld.1, hHeld.2.trans (hb_.mono hHeld.2.size)⟩ (fun hHeld => ?_)
  clear hK K
  refine norm_ (a' := ?_) ?_ ?_
  rotate_left
  · show Act.put _ (some 28) _ = _
    simp only [Act.put, sa, sz, ss, i64_w, i32_w]
    rfl
  have HB6 : Aside0 (Below w.heap.size w w6) := ⟨HB5.out.trans (hb_.mono HB5.out.size)⟩
  have HN6 := Aside0.mk (HN5.out.below hb_)
  have HM6 := Aside0.mk (HM5.out.below hb_)
  have HP6 := Aside0.mk hn6
  clear hb_ hn6
  refine one_ (i := 19) (N := some 29) (bb 22 1048575) rfl rfl (by kernel_rfl) (by decide) (fun K hK => ?_)
  skip
  refine goes_ Tryz.func30 (by kernel_rfl) rfl #[.slice A7 (rchL l).length c7, .slice A8 (rchL l).length c8] (by rfl) rfl rfl (by (simp only [List.map_toArray, List.map_cons, List.map_nil]); rfl) ?_
  refine (nodes_sameR _ A7 A8 c7 c8 (rchL l) (nodes_own HM6.out) (nodes_own HP6.out) (Nat.le_trans (rch_len l) HBD.out) (fun x hx => HLB.out x (rch_mem hx))).mono ?_
  rintro e_ w7 ⟨rfl, m7, hw7⟩
  have hb_ := below_dn2 w6 m7
  rw [← hw7] at hb_
  refine ⟨_, rfl, ?_⟩
  refine hK.out _ _ ⟨(hb_.cell (World.block_lt_of_cell? _ _ hHeld.1)).trans hHeld.1, hHeld.2.trans (hb_.mono hHeld.2.size)⟩ (fun hHeld => ?_)
  clear hK K
  refine norm_ (a' := ?_) ?_ ?_
  rotate_left
  · show Act.put _ (some 29) _ = _
    simp only [Act.put, sa, sz, ss, i64_w, i32_w]
    rfl
  have HB7 : Aside0 (Below w.heap.size w w7) := ⟨HB6.out.trans (hb_.mono HB6.out.size)⟩
  have HN7 := Aside0.mk (HN6.out.below hb_)
  clear hb_ hw7
  refine pure_ (i := 20) (N := some 30) (v := ?_) (a' := ?_) (bb 22 2097151) rfl rfl (by kernel_rfl) (fun _ _ _ h => h) (Or.inl ⟨by rfl, ?_⟩) ?_ ?_
  rotate_left
  · intro w'
    go_simp
    with_reducible rfl
  rotate_left
  · simp only [Act.put, sa, sz, ss, i64_w, i32_w]
    rfl
  refine pure_ (i := 21) (N := some 31) (v := ?_) (a' := ?_) (bb 22 4194303) rfl rfl (by kernel_rfl) (fun _ _ _ h => h) (Or.inl ⟨by rfl, ?_⟩) ?_ ?_
  rotate_left
  · intro w'
    go_simp
    with_reducible rfl
  rotate_left
  · simp only [Act.put, sa, sz, ss, i64_w, i32_w]
    rfl
  refine done_ (by kernel_rfl) ?_
  clear hS hHeld
  go_upto_region 5 with (fail)
  go_loopg [6] l.length (fun kq v6 W => ∃ (i : Nat) (iv : Int), v6 = .int .i64 iv ∧ Aside0 (iv = (i : Int)) ∧ Aside0 (i ≤ l.length ∧ l.length - i ≤ kq) ∧ Aside0 (Below w.heap.size w W) ∧ Aside0 (LkShape w7 W) ∧ Aside0 (∀ b, A5 = some (⟨b, 0, none⟩ : Addr) → W.heap[b]? = w7.heap[b]?))
  case atStart => exact ⟨0, 0, rfl, ⟨rfl⟩, ⟨by omega, by omega⟩, HB7, ⟨LkShape.refl _⟩, ⟨fun _ _ => rfl⟩⟩
  case round =>
    obtain ⟨i, iv, rfl, HIV, HI, HBW, HSH, HGN⟩ := hrel
    by_cases hlt : i < l.length
    · obtain ⟨x, hx⟩ : ∃ x, l[i]? = some x := ⟨_, List.getElem?_eq_getElem hlt⟩
      obtain ⟨gn, c5', Ax, cx, e5, hgn, -, -, x2, xr⟩ := node_row HN7.out hx
      obtain ⟨rfl, rfl⟩ : A5 = some ⟨gn, 0, none⟩ ∧ c5 = c5' := by simpa using e5
      obtain ⟨cn, hcn⟩ := HN7.out.typed
      have HCN := Aside0.mk hcn
      have HX2 := Aside0.mk x2
      have HXR := Aside0.mk xr
      have y2 : wr.cell? ⟨gn, i * 3 + 2, none⟩ = some (.slice Ax x.2.links.length cx) := (cell_heap (HGN.out gn rfl) hcn _).trans x2
      have q1 : decide (iv < (l.length : Int)) = true := decide_eq_true (by have := HIV.out; omega)
      have q2 : (iv < (l.length : Int)) = True := eq_true (by have := HIV.out; omega)
      have q3 : (0 : Int) ≤ iv := by have := HIV.out; omega
      have q4 : iv.toNat = i := by have := HIV.out; omega
      have w1_ : wrap64 (iv + 1) = iv + 1 := wrap_ok9 _ (by omega) (by have := HIV.out; have := HB.out; omega)
      have HXB := Aside0.mk (HLB.out x (List.mem_of_getElem? hx))
      have HLT := Aside0.mk hlt
      obtain ⟨gk0, HGK⟩ : ∃ gk0, Aside0 (gk0 = gk) := ⟨_, ⟨rfl⟩⟩
      clear hx hlt e5 hgn x2 xr hcn
      go_upto_region 8 with (fail)
      clear y2
      go_loopg [7] x.2.links.length (fun kq v7 W => ∃ (m : Nat) (mv : Int), v7 = .int .i64 mv ∧ Aside0 (mv = (m : Int)) ∧ Aside0 (m ≤ x.2.links.length ∧ x.2.links.length - m ≤ kq) ∧ Aside0 (Below w.heap.size w W) ∧ Aside0 (LkShape w7 W) ∧ Aside0 (W.heap[gn]? = w7.heap[gn]?))
      case atStart => exact ⟨0, 0, rfl, ⟨rfl⟩, ⟨by omega, by omega⟩, HBW, HSH, ⟨HGN.out gn rfl⟩⟩
      case round =>
        obtain ⟨m, mv, rfl, HMV, HM, HBM, HSM, HGM⟩ := hrel
        have y2 : wr.cell? ⟨gn, i * 3 + 2, none⟩ = some (.slice Ax x.2.links.length cx) := (cell_heap HGM.out HCN.out _).trans HX2.out
        by_cases hmt : m < x.2.links.length
        · obtain ⟨gl, cs, rfl, hgl, hgl2, hcs, hsz⟩ := spoil_row HXR.out rfl HSM.out hmt
          have f1 : wr.frozen? ⟨gl, m * 3, none⟩ = false := blk_frozen hcs _
          obtain ⟨u0, hu0⟩ : ∃ u0, wr.cell? ⟨gl, m * 3, none⟩ = some u0 := ⟨cs[m * 3]'(by omega), (blk_cell hcs _).trans (Array.getElem?_eq_getElem _)⟩
          have HCS := Aside0.mk hcs
          have HGL := Aside0.mk hgl
          have HNE : Aside0 (gn ≠ gl) := ⟨by
            rintro rfl
            have h1 := (HGM.out).trans HCN.out
            rw [hcs] at h1
            cases h1⟩
          have p1 : decide (mv < (x.2.links.length : Int)) = true := decide_eq_true (by have := HMV.out; omega)
          have p2 : (mv < (x.2.links.length : Int)) = True := eq_true (by have := HMV.out; omega)
          have p3 : (0 : Int) ≤ mv := by have := HMV.out; omega
          have p4 : mv.toNat = m := by have := HMV.out; omega
          have w2_ : wrap64 (mv + 1) = mv + 1 := wrap_ok9 _ (by omega) (by have := HMV.out; have := HXB.out; unfold bound at this; omega)
          have HMT := Aside0.mk hmt
          clear hcs hgl hgl2 hsz hmt
          go_wp2
          clear p4
          go_roundg (gk - 1)
          case measure => have := HM.out; have := HMT.out; omega
          case rel => exact ⟨m + 1, mv + 1, by first | rfl | rw [w2_], ⟨by have := HMV.out; omega⟩, ⟨by have := HMT.out; omega, by have := HM.out; omega⟩, ⟨HBM.out.setCell HGL.out _⟩, ⟨HSM.out.set HCS.out _ _⟩, ⟨(Below.heap_setCell _ _ _ _ HNE.out).trans HGM.out⟩⟩
        · have p1 : decide (mv < (x.2.links.length : Int)) = false := decide_eq_false (by have := HMV.out; omega)
          have p2 : (mv < (x.2.links.length : Int)) = False := eq_false (by have := HMV.out; omega)
          clear hmt
          go_wp2
          clear q4
          go_roundg (gk0 - 1)
          case measure => have := HI.out; have := HLT.out; have := HGK.out; omega
          case rel => exact ⟨i + 1, iv + 1, by first | rfl | rw [w1_], ⟨by have := HIV.out; omega⟩, ⟨by have := HLT.out; omega, by have := HI.out; have := HGK.out; omega⟩, HBM, HSM, ⟨fun b hb => by cases hb; exact HGM.out⟩⟩
    · have q1 : decide (iv < (l.length : Int)) = false := decide_eq_false (by have := HIV.out; omega)
      have q2 : (iv < (l.length : Int)) = False := eq_false (by have := HIV.out; omega)
      clear hlt
      go_wp2_with (first
        | (go_at_call 23; refine (HNN.out _ HBW.out).mono ?_; rintro e_ w8 ⟨v8, rfl, hn8, hb8⟩; obtain ⟨A8, c8, rfl⟩ := nodes_sl hn8; have HN8 := Aside0.mk hn8; have HB8 := Aside0.mk (HBW.out.trans (hb8.mono HBW.out.size)); clear hn8 hb8)
        | (go_at_call 59; refine (refNodes_calls _ g next A c l (HR.out.below HB8.out) HBD.out HLB.out).mono ?_; rintro e_ w9 ⟨v9, rfl, hn9, hb9⟩; obtain ⟨A9, c9, rfl⟩ := nodes_sl hn9; have HN9 := Aside0.mk hn9; have HM9 := Aside0.mk (HN8.out.below hb9); have HB9 := Aside0.mk (HB8.out.trans (hb9.mono HB8.out.size)); clear hn9 hb9)
        | (go_at_call 30; refine (nodes_sameR _ _ _ _ _ l (nodes_own HM9.out) (nodes_own HN9.out) HBD.out HLB.out).mono ?_; rintro e_ wa ⟨rfl, ma, hwa⟩; have hba := below_dn2 w9 ma; rw [← hwa] at hba; have HBa := Aside0.mk (HB9.out.trans (hba.mono HB9.out.size)); clear hba hwa))
      go_ret
      exact ⟨rfl, HBa.out⟩
end
end Go.Proofs.YthifdofdoeaemaaGreatDoor.Wk
end
section
namespace Go.Proofs.YthifdofdoeaemaaGreatDoor.Wk
open Go.RowKit Go.Proofs.YthifdofdoeaemaaGreatDoorW.PrintWords Go.Proofs.YthifdofdoeaemaaGreatDoorW.PrintLast Go.Proofs.YthifdofdoeaemaaGreatDoorW.PrintMore
attribute [local go_sem] max2_int min2_int max_two min_two max_three min_three max_four min_four
set_option linter.unusedVariables false
set_option linter.unusedSimpArgs false
section
open Go.RowKit Go.Lib Go.Maps Go.Proofs.YthifdofdoeaemaaGreatDoorQ
attribute [local go_sem] Oper.semAt_some
def RLdAns (next : Int) (l : List (Int × GO)) (w : World) (e : Ending) (w' : World) : Prop :=
  (LoadP next l ∧ ∃ v, e = .returned (.tuple #[.pointer (some ⟨w.heap.size, 0, none⟩), .int .i64 0]) ∧ RefAt w' w.heap.size w.heap.size next v (ldG next l).objs ∧ Below w.heap.size w w') ∨
  (¬ LoadP next l ∧ e = .returned (.tuple #[.pointer none, .int .i64 5]) ∧ Below w.heap.size w w')
theorem rld_no {next : Int} {l : List (Int × GO)} {w w' : World} (h : ¬ LoadP next l) (hb : Below w.heap.size w w') : RLdAns next l w (.returned (.tuple #[.pointer none, .int .i64 5])) w' := .inr ⟨h, rfl, hb⟩
theorem rch_grL {next : Int} {l : List (Int × GO)} {id : Int} : Rch (grL (l.map (ldO l))) id ↔ Rch (grL l) id := by
  have h1 : Rch (grL (l.map (ldO l))) id ↔ Rch (ldG next l) id := by
    constructor <;> intro h
    · induction h with
      | root => exact .root
      | step _ ho hk h0 ih => exact .step ih ho hk h0
    · induction h with
      | root => exact .root
      | step _ ho hk h0 ih => exact .step ih ho hk h0
  exact h1.trans ld_rch
theorem atP_has {l : List (Int × GO)} {id r : Int} (h : AtP l id r) : (r < 0) ↔ ¬ has l id := by
  rcases h with ⟨i, x, h1, h2, h3⟩ | ⟨h1, h2⟩
  · refine ⟨fun h => by omega, fun h => absurd ⟨x.2, ?_⟩ h⟩
    rw [← h2]
    exact List.mem_of_getElem? h1
  · exact ⟨fun _ ⟨o, ho⟩ => h2 _ ho rfl, fun _ => by omega⟩
theorem asc_pos {l : List (Int × GO)} (ha : Asc l) (h0 : ∀ x, l[0]? = some x → x.1 = 1) : ∀ x ∈ l, 0 < x.1 := fun x hx => by
  obtain ⟨i, hi⟩ := List.mem_iff_getElem?.1 hx
  obtain ⟨h1, h2⟩ := List.getElem?_eq_some_iff.1 hi
  rcases Nat.eq_zero_or_pos i with e | e
  · subst e
    have := h0 x hi
    omega
  · have h3 := asc_get ha e h1
    have h4 := h0 _ (List.getElem?_eq_getElem (by omega : 0 < l.length))
    rw [h2] at h3
    omega
set_option maxHeartbeats 32000000 in
set_option maxRecDepth 100000 in
theorem refLoad_calls (next : Int) (l : List (Int × GO)) (hlen : sumO lenO l ≤ 100000) (hll : l.length ≤ 100000) (w : World) (A : Option Addr) (k0 : Nat) (hn : NodesR w A l) :
    Calls Tryz.prog 29 #[.int .i64 next, .slice A l.length k0] w fun e w' => RLdAns next l w e w' := by
  have HLL := Aside0.mk hlen
  have HN := Aside0.mk hn
  have HBN := Aside0.mk hll
  clear hlen hn hll
  have HBA : Aside0 (∀ o, Below w.heap.size w (w.alloc o)) := ⟨fun o => below_alloc (Below.refl _ _) _⟩
  by_cases hl0 : l = []
  · subst hl0
    go_enter Tryz.func29, Tryz.ntmps29
    go_wp2
    go_ret2
    exact rld_no (fun h => by have := h.some_; cases this) (HBA.out _)
  have hlen0 : 0 < l.length := List.length_pos_iff.2 hl0
  have HLEN0 := Aside0.mk hlen0
  have z4 : ((l.length : Int) == 0) = false := by simpa using (by omega : ¬ l.length = 0)
  have z4' : (l = []) = False := eq_false hl0
  by_cases hbig : 128 < l.length
  · have z5 : decide (128 < (l.length : Int)) = true := decide_eq_true (by omega)
    have HNO : Aside0 (¬ LoadP next l) := ⟨fun h => by have := h.size; omega⟩
    clear hbig hlen0 hl0
    go_enter Tryz.func29, Tryz.ntmps29
    go_wp2
    go_ret2
    exact rld_no HNO.out (HBA.out _)
  have z5 : decide (128 < (l.length : Int)) = false := decide_eq_false (by omega)
  have HSZ : Aside0 (l.length ≤ 128) := ⟨by omega⟩
  obtain ⟨x0, hx0⟩ : ∃ x0, l[0]? = some x0 := ⟨_, List.getElem?_eq_getElem hlen0⟩
  obtain ⟨W1, hW1⟩ : ∃ W1, W1 = w.alloc (.cells #[.int .i64 next, .slice none 0 0] 104 (0, 0)) := ⟨_, rfl⟩
  have hb1 : Below w.heap.size w W1 := by rw [hW1]; exact HBA.out _
  obtain ⟨g0, o0, A0, c0, rfl, hg0, z1, z2, -, -, -⟩ := (HN.out.below hb1).at hx0
  have hRA1 : RefAt W1 w.heap.size w.heap.size next (.slice none 0 0) [] := ⟨Nat.le_refl _, by rw [hW1]; exact World.alloc_heap_new _ _, ⟨[], rfl, World.ownsRow_nil _ _ _ _, fun j x u hx _ => by simp at hx⟩⟩
  have HRA1 := Aside0.mk hRA1
  have HB1 := Aside0.mk hb1
  have HW1 := Aside0.mk hW1
  simp only [Nat.zero_mul, Nat.add_zero] at z1 z2
  have z6 : ((0 : Int) < (l.length : Int)) = True := eq_true (by omega)
  have z7 : (0 < l.length) = True := eq_true hlen0
  have HX0 := Aside0.mk hx0
  have HG0 := Aside0.mk hg0
  clear hbig hlen0 hx0 hg0 hl0 hb1 hW1 hRA1
  by_cases hr1 : x0.1 = 1
  rotate_left
  · have z8 : (x0.1 != 1) = true := by simpa using hr1
    have HNO : Aside0 (¬ LoadP next l) := ⟨fun h => hr1 (h.head x0 HX0.out).1⟩
    clear hr1
    go_enter Tryz.func29, Tryz.ntmps29
    go_upto_region 2 with (fail)
    rw [← HW1.out]
    go_wp2
    go_ret2
    exact rld_no HNO.out HB1.out
  by_cases hr2 : x0.2.kind = 1
  rotate_left
  · have z8 : (x0.2.kind != 1) = true := by simpa using hr2
    have HNO : Aside0 (¬ LoadP next l) := ⟨fun h => hr2 (h.head x0 HX0.out).2⟩
    rw [hr1] at z1
    clear hr1 hr2
    go_enter Tryz.func29, Tryz.ntmps29
    go_upto_region 2 with (fail)
    rw [← HW1.out]
    go_wp2
    go_ret2
    exact rld_no HNO.out HB1.out
  have HHD : Aside0 (∀ x, l[0]? = some x → x.1 = 1 ∧ x.2.kind = 1) := ⟨fun x hx => by rw [HX0.out] at hx; rw [← Option.some.inj hx]; exact ⟨hr1, hr2⟩⟩
  rw [hr1] at z1
  rw [hr2] at z2
  clear hr1 hr2
  by_cases hnx : 2 ≤ next
  rotate_left
  · have z8 : decide (next < 2) = true := decide_eq_true (by omega)
    have HNO : Aside0 (¬ LoadP next l) := ⟨fun h => by have := h.next_; omega⟩
    clear hnx
    go_enter Tryz.func29, Tryz.ntmps29
    go_upto_region 2 with (fail)
    rw [← HW1.out]
    go_wp2
    go_ret2
    exact rld_no HNO.out HB1.out
  have z8 : decide (next < 2) = false := decide_eq_false (by omega)
  have HNX : Aside0 (1 < next) := ⟨by omega⟩
  clear hnx
  go_enter Tryz.func29, Tryz.ntmps29
  go_upto_region 2 with (fail)
  rw [← HW1.out]
  obtain ⟨gg, hgg⟩ : ∃ gg, gg = w.heap.size := ⟨_, rfl⟩
  rw [← hgg]
  have HGG := Aside0.mk hgg
  have HRG : Aside0 (RefAt W1 w.heap.size gg next (.slice none 0 0) []) := ⟨by rw [HGG.out]; exact HRA1.out⟩
  clear hgg
  go_upto_region 5 with (fail)
  clear z1 z2 z4 z4' z5 z6 z7 z8
  go_loopg [7] l.length (fun kq v7 W => ∃ (i : Nat) (iv : Int) (v : Value), v7 = .int .i64 iv ∧ Aside0 (iv = (i : Int)) ∧ Aside0 (i ≤ l.length ∧ l.length - i ≤ kq) ∧ Aside0 (RefAt W w.heap.size gg next v ((l.take i).map (ldO l))) ∧ Aside0 (Below w.heap.size w W) ∧
    Aside0 (∀ x ∈ l.take i, MayP x.2.kind x.2.links) ∧ Aside0 (Asc (l.take i)) ∧ Aside0 (∀ x ∈ l.take i, x.1 < next))
  case atStart => exact ⟨0, 0, _, rfl, ⟨rfl⟩, ⟨by omega, by omega⟩, HRG, HB1, ⟨by simp⟩, ⟨List.Pairwise.nil⟩, ⟨by simp⟩⟩
  case round =>
    obtain ⟨i, iv, v, rfl, HIV, HI, HG, HB, HMY, HAS, HBL⟩ := hrel
    clear HW1 HRA1 HRG HB1
    by_cases hlt : i < l.length
    · obtain ⟨x, hx⟩ : ∃ x, l[i]? = some x := ⟨_, List.getElem?_eq_getElem hlt⟩
      have HX := Aside0.mk hx
      have HXM := Aside0.mk (List.mem_of_getElem? hx)
      have HXB : Aside0 (x.2.links.length ≤ bound) := ⟨by have h9 : x.2.links.length ≤ sumO lenO l := le_sumO lenO HXM.out; have := HLL.out; unfold bound; omega⟩
      have HTK : Aside0 (l.take (i + 1) = l.take i ++ [x]) := ⟨by obtain ⟨h1, e1⟩ := List.getElem?_eq_some_iff.1 hx; rw [List.take_succ_eq_append_getElem h1, e1]⟩
      have HNW := Aside0.mk (HN.out.below HB.out)
      obtain ⟨g0', o0', Ax, cx, e0, -, y1, y2, y3, hcx, hlr⟩ := HNW.out.at hx
      obtain ⟨rfl, rfl⟩ : g0 = g0' ∧ o0 = o0' := by simpa using e0
      have HLR := Aside0.mk hlr
      have HLT := Aside0.mk hlt
      have q1 : decide (iv < (l.length : Int)) = true := decide_eq_true (by have := HIV.out; omega)
      have q2 : (iv < (l.length : Int)) = True := eq_true (by have := HIV.out; omega)
      have q3 : (0 : Int) ≤ iv := by have := HIV.out; omega
      have q4 : iv.toNat = i := by have := HIV.out; omega
      have w1_ : wrap64 (iv + 1) = iv + 1 := wrap_ok9 _ (by omega) (by have := HIV.out; have := HSZ.out; have := HLT.out; omega)
      have w2_ : wrap64 (iv - 1) = iv - 1 := wrap_ok9 _ (by omega) (by have := HIV.out; have := HSZ.out; have := HLT.out; omega)
      clear hx hlt hlr hcx e0
      go_upto_region 7 with (fail)
      clear q1
      by_cases hmx : MayP x.2.kind x.2.links
      rotate_left
      · have HMX := Aside0.mk hmx
        have HNO : Aside0 (¬ LoadP next l) := ⟨fun h => hmx (h.may x HXM.out)⟩
        clear hmx
        have hS : wr.drew.cell? ⟨g0, o0 + i * 3, none⟩ = some (.int .i64 x.1) ∧ wr.drew.cell? ⟨g0, o0 + i * 3 + 1, none⟩ = some (.int .i64 x.2.kind) ∧ wr.drew.cell? ⟨g0, o0 + i * 3 + 2, none⟩ = some (.slice Ax x.2.links.length cx) ∧ Below wr.heap.size wr wr.drew := ⟨y1, y2, y3, below_drew (Below.refl _ _)⟩
        refine start_ (n := 33) (S := fun W' => W'.cell? ⟨g0, o0 + i * 3, none⟩ = some (.int .i64 x.1) ∧ W'.cell? ⟨g0, o0 + i * 3 + 1, none⟩ = some (.int .i64 x.2.kind) ∧ W'.cell? ⟨g0, o0 + i * 3 + 2, none⟩ = some (.slice Ax x.2.links.length cx) ∧ Below wr.heap.size wr W') (ds := []) #[false, false, false, false, false, false, false, false, false, false, false, false, false, false, false, false, false, false, false, false, false, false, false, false, false, false, false, false, false, false, false, false, false] (by kernel_rfl) rfl rfl hS (fun hHeld => ?_)
        refine pure_ (i := 0) (N := some 46) (v := ?_) (a' := ?_) (bb 33 1) rfl rfl (by kernel_rfl) (fun _ _ _ h => h) (Or.inl ⟨by rfl, ?_⟩) ?_ ?_
        rotate_left
        · intro w'
          go_simp
          with_reducible rfl
        rotate_left
        · simp only [Act.put, sa, sz, ss, i64_w, i32_w]
          rfl
        refine pure_ (i := 1) (N := some 47) (v := ?_) (a' := ?_) (bb 33 3) rfl rfl (by kernel_rfl) (fun _ _ _ h => h) (Or.inl ⟨by rfl, ?_⟩) ?_ ?_
        rotate_left
        · intro w'
          go_simp
          with_reducible rfl
        rotate_left
        · simp only [Act.put, sa, sz, ss, i64_w, i32_w]
          rfl
        refine pure_ (i := 2) (N := some 48) (v := ?_) (a' := ?_) (bb 33 7) rfl rfl (by kernel_rfl) (fun _ _ _ h => h) (Or.inl ⟨by rfl, ?_⟩) ?_ ?_
        rotate_left
        · intro w'
          go_simp
          with_reducible rfl
        rotate_left
        · simp only [Act.put, sa, sz, ss, i64_w, i32_w]
          rfl
        refine take_ (i := 3) (N := some 49) (v := ?_) (a' := ?_) (bb 33 15) rfl rfl (by kernel_rfl) (fun _ _ _ h => h) (Or.inl ⟨by rfl, ?_⟩) hHeld ?_ ?_
        rotate_left
        · rintro w' ⟨s1_, s2_, s3_, s4_⟩
          go_simp
          with_reducible rfl
        rotate_left
        · simp only [Act.put, sa, sz, ss, i64_w, i32_w]
          rfl
        refine one_ (i := 4) (N := some 50) (bb 33 31) rfl rfl (by kernel_rfl) (by decide) (fun K hK => ?_)
        skip
        refine goes_ Tryz.func53 (by kernel_rfl) rfl #[.agg #[.int .i64 x.1, .int .i64 x.2.kind, .slice Ax x.2.links.length cx]] (by rfl) rfl rfl (by (simp only [List.map_toArray, List.map_cons, List.map_nil]); rfl) ?_
        refine (rnode_calls _ x.1 x.2.kind Ax cx x.2.links (HLR.out.below hHeld.2.2.2) HXB.out).mono ?_
        rintro e_ w7 ⟨bm, rfl, hbm, hb7⟩
        obtain rfl : bm = false := by cases bm with | false => rfl | true => exact absurd (hbm.1 rfl) HMX.out
        refine ⟨_, rfl, ?_⟩
        refine hK.out _ _ ⟨(hb7.cell (World.block_lt_of_cell? _ _ hHeld.1)).trans hHeld.1, (hb7.cell (World.block_lt_of_cell? _ _ hHeld.2.1)).trans hHeld.2.1, (hb7.cell (World.block_lt_of_cell? _ _ hHeld.2.2.1)).trans hHeld.2.2.1, hHeld.2.2.2.trans (hb7.mono hHeld.2.2.2.size)⟩ (fun hHeld => ?_)
        clear hK K
        refine norm_ (a' := ?_) ?_ ?_
        rotate_left
        · show Act.put _ (some 50) _ = _
          simp only [Act.put, sa, sz, ss, i64_w, i32_w]
          rfl
        clear hb7 hbm
        refine pure_ (i := 5) (N := some 51) (v := ?_) (a' := ?_) (bb 33 63) rfl rfl (by kernel_rfl) (fun _ _ _ h => h) (Or.inl ⟨by rfl, ?_⟩) ?_ ?_
        rotate_left
        · intro w'
          go_simp
          with_reducible rfl
        rotate_left
        · simp only [Act.put, sa, sz, ss, i64_w, i32_w]
          rfl
        refine pure_ (i := 6) (N := some 52) (v := ?_) (a' := ?_) (bb 33 127) rfl rfl (by kernel_rfl) (fun _ _ _ h => h) (Or.inl ⟨by rfl, ?_⟩) ?_ ?_
        rotate_left
        · intro w'
          go_simp
          with_reducible rfl
        rotate_left
        · simp only [Act.put, sa, sz, ss, i64_w, i32_w]
          rfl
        refine pure_ (i := 7) (N := some 53) (v := undef) (a' := ?_) (bb 33 255) rfl rfl (by kernel_rfl) (fun _ _ _ h => h) (Or.inr ⟨by rfl, rfl⟩) ?_ ?_
        rotate_left
        · simp only [Act.put, sa, sz, ss, i64_w, i32_w]
          rfl
        refine pure_ (i := 8) (N := some 54) (v := undef) (a' := ?_) (bb 33 511) rfl rfl (by kernel_rfl) (fun _ _ _ h => h) (Or.inr ⟨by rfl, rfl⟩) ?_ ?_
        rotate_left
        · simp only [Act.put, sa, sz, ss, i64_w, i32_w]
          rfl
        refine pure_ (i := 9) (N := some 55) (v := undef) (a' := ?_) (bb 33 1023) rfl rfl (by kernel_rfl) (fun _ _ _ h => h) (Or.inr ⟨by rfl, rfl⟩) ?_ ?_
        rotate_left
        · simp only [Act.put, sa, sz, ss, i64_w, i32_w]
          rfl
        refine pure_ (i := 10) (N := some 56) (v := undef) (a' := ?_) (bb 33 2047) rfl rfl (by kernel_rfl) (fun _ _ _ h => h) (Or.inr ⟨by rfl, rfl⟩) ?_ ?_
        rotate_left
        · simp only [Act.put, sa, sz, ss, i64_w, i32_w]
          rfl
        refine pure_ (i := 11) (N := some 57) (v := undef) (a' := ?_) (bb 33 4095) rfl rfl (by kernel_rfl) (fun _ _ _ h => h) (Or.inr ⟨by rfl, rfl⟩) ?_ ?_
        rotate_left
        · simp only [Act.put, sa, sz, ss, i64_w, i32_w]
          rfl
        refine pure_ (i := 12) (N := some 58) (v := undef) (a' := ?_) (bb 33 8191) rfl rfl (by kernel_rfl) (fun _ _ _ h => h) (Or.inr ⟨by rfl, rfl⟩) ?_ ?_
        rotate_left
        · simp only [Act.put, sa, sz, ss, i64_w, i32_w]
          rfl
        refine pure_ (i := 13) (N := some 59) (v := undef) (a' := ?_) (bb 33 16383) rfl rfl (by kernel_rfl) (fun _ _ _ h => h) (Or.inr ⟨by rfl, rfl⟩) ?_ ?_
        rotate_left
        · simp only [Act.put, sa, sz, ss, i64_w, i32_w]
          rfl
        refine pure_ (i := 14) (N := some 60) (v := undef) (a' := ?_) (bb 33 32767) rfl rfl (by kernel_rfl) (fun _ _ _ h => h) (Or.inr ⟨by rfl, rfl⟩) ?_ ?_
        rotate_left
        · simp only [Act.put, sa, sz, ss, i64_w, i32_w]
          rfl
        refine pure_ (i := 15) (N := some 61) (v := undef) (a' := ?_) (bb 33 65535) rfl rfl (by kernel_rfl) (fun _ _ _ h => h) (Or.inr ⟨by rfl, rfl⟩) ?_ ?_
        rotate_left
        · simp only [Act.put, sa, sz, ss, i64_w, i32_w]
          rfl
        refine pure_ (i := 16) (N := some 62) (v := undef) (a' := ?_) (bb 33 131071) rfl rfl (by kernel_rfl) (fun _ _ _ h => h) (Or.inr ⟨by rfl, rfl⟩) ?_ ?_
        rotate_left
        · simp only [Act.put, sa, sz, ss, i64_w, i32_w]
          rfl
        refine pure_ (i := 17) (N := some 63) (v := undef) (a' := ?_) (bb 33 262143) rfl rfl (by kernel_rfl) (fun _ _ _ h => h) (Or.inr ⟨by rfl, rfl⟩) ?_ ?_
        rotate_left
        · simp only [Act.put, sa, sz, ss, i64_w, i32_w]
          rfl
        refine pure_ (i := 18) (N := some 64) (v := undef) (a' := ?_) (bb 33 524287) rfl rfl (by kernel_rfl) (fun _ _ _ h => h) (Or.inr ⟨by rfl, rfl⟩) ?_ ?_
        rotate_left
        · simp only [Act.put, sa, sz, ss, i64_w, i32_w]
          rfl
        refine pure_ (i := 19) (N := some 65) (v := undef) (a' := ?_) (bb 33 1048575) rfl rfl (by kernel_rfl) (fun _ _ _ h => h) (Or.inr ⟨by rfl, rfl⟩) ?_ ?_
        rotate_left
        · simp only [Act.put, sa, sz, ss, i64_w, i32_w]
          rfl
        refine pure_ (i := 20) (N := some 66) (v := undef) (a' := ?_) (bb 33 2097151) rfl rfl (by kernel_rfl) (fun _ _ _ h => h) (Or.inr ⟨by rfl, rfl⟩) ?_ ?_
        rotate_left
        · simp only [Act.put, sa, sz, ss, i64_w, i32_w]
          rfl
        refine pure_ (i := 21) (N := some 67) (v := undef) (a' := ?_) (bb 33 4194303) rfl rfl (by kernel_rfl) (fun _ _ _ h => h) (Or.inr ⟨by rfl, rfl⟩) ?_ ?_
        rotate_left
        · simp only [Act.put, sa, sz, ss, i64_w, i32_w]
          rfl
        refine pure_ (i := 22) (N := some 68) (v := undef) (a' := ?_) (bb 33 8388607) rfl rfl (by kernel_rfl) (fun _ _ _ h => h) (Or.inr ⟨by rfl, rfl⟩) ?_ ?_
        rotate_left
        · simp only [Act.put, sa, sz, ss, i64_w, i32_w]
          rfl
        refine pure_ (i := 23) (N := some 69) (v := ?_) (a' := ?_) (bb 33 16777215) rfl rfl (by kernel_rfl) (fun _ _ _ h => h) (Or.inl ⟨by rfl, ?_⟩) ?_ ?_
        rotate_left
        · intro w'
          go_simp
          with_reducible rfl
        rotate_left
        · simp only [Act.put, sa, sz, ss, i64_w, i32_w]
          rfl
        refine pure_ (i := 24) (N := some 70) (v := ?_) (a' := ?_) (bb 33 33554431) rfl rfl (by kernel_rfl) (fun _ _ _ h => h) (Or.inl ⟨by rfl, ?_⟩) ?_ ?_
        rotate_left
        · intro w'
          go_simp
          with_reducible rfl
        rotate_left
        · simp only [Act.put, sa, sz, ss, i64_w, i32_w]
          rfl
        refine pure_ (i := 25) (N := some 71) (v := undef) (a' := ?_) (bb 33 67108863) rfl rfl (by kernel_rfl) (fun _ _ _ h => h) (Or.inr ⟨by rfl, rfl⟩) ?_ ?_
        rotate_left
        · simp only [Act.put, sa, sz, ss, i64_w, i32_w]
          rfl
        refine pure_ (i := 26) (N := some 72) (v := undef) (a' := ?_) (bb 33 134217727) rfl rfl (by kernel_rfl) (fun _ _ _ h => h) (Or.inr ⟨by rfl, rfl⟩) ?_ ?_
        rotate_left
        · simp only [Act.put, sa, sz, ss, i64_w, i32_w]
          rfl
        refine pure_ (i := 27) (N := some 73) (v := undef) (a' := ?_) (bb 33 268435455) rfl rfl (by kernel_rfl) (fun _ _ _ h => h) (Or.inr ⟨by rfl, rfl⟩) ?_ ?_
        rotate_left
        · simp only [Act.put, sa, sz, ss, i64_w, i32_w]
          rfl
        refine pure_ (i := 28) (N := some 74) (v := undef) (a' := ?_) (bb 33 536870911) rfl rfl (by kernel_rfl) (fun _ _ _ h => h) (Or.inr ⟨by rfl, rfl⟩) ?_ ?_
        rotate_left
        · simp only [Act.put, sa, sz, ss, i64_w, i32_w]
          rfl
        refine pure_ (i := 29) (N := some 75) (v := undef) (a' := ?_) (bb 33 1073741823) rfl rfl (by kernel_rfl) (fun _ _ _ h => h) (Or.inr ⟨by rfl, rfl⟩) ?_ ?_
        rotate_left
        · simp only [Act.put, sa, sz, ss, i64_w, i32_w]
          rfl
        refine pure_ (i := 30) (N := some 76) (v := undef) (a' := ?_) (bb 33 2147483647) rfl rfl (by kernel_rfl) (fun _ _ _ h => h) (Or.inr ⟨by rfl, rfl⟩) ?_ ?_
        rotate_left
        · simp only [Act.put, sa, sz, ss, i64_w, i32_w]
          rfl
        refine pure_ (i := 31) (N := some 77) (v := undef) (a' := ?_) (bb 33 4294967295) rfl rfl (by kernel_rfl) (fun _ _ _ h => h) (Or.inr ⟨by rfl, rfl⟩) ?_ ?_
        rotate_left
        · simp only [Act.put, sa, sz, ss, i64_w, i32_w]
          rfl
        refine pure_ (i := 32) (N := some 78) (v := ?_) (a' := ?_) (bb 33 8589934591) rfl rfl (by kernel_rfl) (fun _ _ _ h => h) (Or.inl ⟨by rfl, ?_⟩) ?_ ?_
        rotate_left
        · intro w'
          go_simp
          with_reducible rfl
        rotate_left
        · simp only [Act.put, sa, sz, ss, i64_w, i32_w]
          rfl
        refine done_ (by kernel_rfl) ?_
        have HBE := Aside0.mk hHeld.2.2.2
        clear hHeld hS
        go_wp2
        go_ret2
        exact rld_no HNO.out (HB.out.trans (HBE.out.mono HB.out.size))
      have HMX := Aside0.mk hmx
      clear hmx
      rcases Nat.eq_zero_or_pos i with hi0 | hi0
      case' inl =>
        have t1 : decide (0 < iv) = false := decide_eq_false (by have := HIV.out; omega)
        have HAS2 : Aside0 (Asc (l.take (i + 1))) := ⟨asc_take HAS.out HX.out (fun p y hp _ => by omega)⟩
        have HNB : Aside0 (x.1 < next) := ⟨by have h2 := HX.out; rw [hi0] at h2; have := (HHD.out x h2).1; have := HNX.out; omega⟩
        have r1 : decide (next ≤ x.1) = false := decide_eq_false (by have := HNB.out; omega)
        have HI0 := Aside0.mk hi0
        clear hi0
        have hS : wr.drew.cell? ⟨g0, o0 + i * 3, none⟩ = some (.int .i64 x.1) ∧ wr.drew.cell? ⟨g0, o0 + i * 3 + 1, none⟩ = some (.int .i64 x.2.kind) ∧ wr.drew.cell? ⟨g0, o0 + i * 3 + 2, none⟩ = some (.slice Ax x.2.links.length cx) ∧ Below wr.heap.size wr wr.drew := ⟨y1, y2, y3, below_drew (Below.refl _ _)⟩
        refine start_ (n := 33) (S := fun W' => W'.cell? ⟨g0, o0 + i * 3, none⟩ = some (.int .i64 x.1) ∧ W'.cell? ⟨g0, o0 + i * 3 + 1, none⟩ = some (.int .i64 x.2.kind) ∧ W'.cell? ⟨g0, o0 + i * 3 + 2, none⟩ = some (.slice Ax x.2.links.length cx) ∧ Below wr.heap.size wr W') (ds := []) #[false, false, false, false, false, false, false, false, false, false, false, false, false, false, false, false, false, false, false, false, false, false, false, false, false, false, false, false, false, false, false, false, false] (by kernel_rfl) rfl rfl hS (fun hHeld => ?_)
        refine pure_ (i := 0) (N := some 46) (v := ?_) (a' := ?_) (bb 33 1) rfl rfl (by kernel_rfl) (fun _ _ _ h => h) (Or.inl ⟨by rfl, ?_⟩) ?_ ?_
        rotate_left
        · intro w'
          go_simp
          with_reducible rfl
        rotate_left
        · simp only [Act.put, sa, sz, ss, i64_w, i32_w]
          rfl
        refine pure_ (i := 1) (N := some 47) (v := ?_) (a' := ?_) (bb 33 3) rfl rfl (by kernel_rfl) (fun _ _ _ h => h) (Or.inl ⟨by rfl, ?_⟩) ?_ ?_
        rotate_left
        · intro w'
          go_simp
          with_reducible rfl
        rotate_left
        · simp only [Act.put, sa, sz, ss, i64_w, i32_w]
          rfl
        refine pure_ (i := 2) (N := some 48) (v := ?_) (a' := ?_) (bb 33 7) rfl rfl (by kernel_rfl) (fun _ _ _ h => h) (Or.inl ⟨by rfl, ?_⟩) ?_ ?_
        rotate_left
        · intro w'
          go_simp
          with_reducible rfl
        rotate_left
        · simp only [Act.put, sa, sz, ss, i64_w, i32_w]
          rfl
        refine take_ (i := 3) (N := some 49) (v := ?_) (a' := ?_) (bb 33 15) rfl rfl (by kernel_rfl) (fun _ _ _ h => h) (Or.inl ⟨by rfl, ?_⟩) hHeld ?_ ?_
        rotate_left
        · rintro w' ⟨s1_, s2_, s3_, s4_⟩
          go_simp
          with_reducible rfl
        rotate_left
        · simp only [Act.put, sa, sz, ss, i64_w, i32_w]
          rfl
        refine one_ (i := 4) (N := some 50) (bb 33 31) rfl rfl (by kernel_rfl) (by decide) (fun K hK => ?_)
        skip
        refine goes_ Tryz.func53 (by kernel_rfl) rfl #[.agg #[.int .i64 x.1, .int .i64 x.2.kind, .slice Ax x.2.links.length cx]] (by rfl) rfl rfl (by (simp only [List.map_toArray, List.map_cons, List.map_nil]); rfl) ?_
        refine (rnode_calls _ x.1 x.2.kind Ax cx x.2.links (HLR.out.below hHeld.2.2.2) HXB.out).mono ?_
        rintro e_ w7 ⟨bm, rfl, hbm, hb7⟩
        obtain rfl : bm = true := hbm.2 HMX.out
        refine ⟨_, rfl, ?_⟩
        refine hK.out _ _ ⟨(hb7.cell (World.block_lt_of_cell? _ _ hHeld.1)).trans hHeld.1, (hb7.cell (World.block_lt_of_cell? _ _ hHeld.2.1)).trans hHeld.2.1, (hb7.cell (World.block_lt_of_cell? _ _ hHeld.2.2.1)).trans hHeld.2.2.1, hHeld.2.2.2.trans (hb7.mono hHeld.2.2.2.size)⟩ (fun hHeld => ?_)
        clear hK K
        refine norm_ (a' := ?_) ?_ ?_
        rotate_left
        · show Act.put _ (some 50) _ = _
          simp only [Act.put, sa, sz, ss, i64_w, i32_w]
          rfl
        clear hb7 hbm
        refine pure_ (i := 5) (N := some 51) (v := ?_) (a' := ?_) (bb 33 63) rfl rfl (by kernel_rfl) (fun _ _ _ h => h) (Or.inl ⟨by rfl, ?_⟩) ?_ ?_
        rotate_left
        · intro w'
          go_simp
          with_reducible rfl
        rotate_left
        · simp only [Act.put, sa, sz, ss, i64_w, i32_w]
          rfl
        refine pure_ (i := 6) (N := some 52) (v := ?_) (a' := ?_) (bb 33 127) rfl rfl (by kernel_rfl) (fun _ _ _ h => h) (Or.inl ⟨by rfl, ?_⟩) ?_ ?_
        rotate_left
        · intro w'
          go_simp
          with_reducible rfl
        rotate_left
        · simp only [Act.put, sa, sz, ss, i64_w, i32_w]
          rfl
        refine pure_ (i := 7) (N := some 53) (v := ?_) (a' := ?_) (bb 33 255) rfl rfl (by kernel_rfl) (fun _ _ _ h => h) (Or.inl ⟨by rfl, ?_⟩) ?_ ?_
        rotate_left
        · intro w'
          go_simp
          with_reducible rfl
        rotate_left
        · simp only [Act.put, sa, sz, ss, i64_w, i32_w]
          rfl
        refine pure_ (i := 8) (N := some 54) (v := ?_) (a' := ?_) (bb 33 511) rfl rfl (by kernel_rfl) (fun _ _ _ h => h) (Or.inl ⟨by rfl, ?_⟩) ?_ ?_
        rotate_left
        · intro w'
          go_simp
          with_reducible rfl
        rotate_left
        · simp only [Act.put, sa, sz, ss, i64_w, i32_w]
          rfl
        refine pure_ (i := 9) (N := some 55) (v := ?_) (a' := ?_) (bb 33 1023) rfl rfl (by kernel_rfl) (fun _ _ _ h => h) (Or.inl ⟨by rfl, ?_⟩) ?_ ?_
        rotate_left
        · intro w'
          go_simp
          with_reducible rfl
        rotate_left
        · simp only [Act.put, sa, sz, ss, i64_w, i32_w]
          rfl
        refine pure_ (i := 10) (N := some 56) (v := undef) (a' := ?_) (bb 33 2047) rfl rfl (by kernel_rfl) (fun _ _ _ h => h) (Or.inr ⟨by rfl, rfl⟩) ?_ ?_
        rotate_left
        · simp only [Act.put, sa, sz, ss, i64_w, i32_w]
          rfl
        refine pure_ (i := 11) (N := some 57) (v := undef) (a' := ?_) (bb 33 4095) rfl rfl (by kernel_rfl) (fun _ _ _ h => h) (Or.inr ⟨by rfl, rfl⟩) ?_ ?_
        rotate_left
        · simp only [Act.put, sa, sz, ss, i64_w, i32_w]
          rfl
        refine pure_ (i := 12) (N := some 58) (v := undef) (a' := ?_) (bb 33 8191) rfl rfl (by kernel_rfl) (fun _ _ _ h => h) (Or.inr ⟨by rfl, rfl⟩) ?_ ?_
        rotate_left
        · simp only [Act.put, sa, sz, ss, i64_w, i32_w]
          rfl
        refine pure_ (i := 13) (N := some 59) (v := undef) (a' := ?_) (bb 33 16383) rfl rfl (by kernel_rfl) (fun _ _ _ h => h) (Or.inr ⟨by rfl, rfl⟩) ?_ ?_
        rotate_left
        · simp only [Act.put, sa, sz, ss, i64_w, i32_w]
          rfl
        refine pure_ (i := 14) (N := some 60) (v := undef) (a' := ?_) (bb 33 32767) rfl rfl (by kernel_rfl) (fun _ _ _ h => h) (Or.inr ⟨by rfl, rfl⟩) ?_ ?_
        rotate_left
        · simp only [Act.put, sa, sz, ss, i64_w, i32_w]
          rfl
        refine pure_ (i := 15) (N := some 61) (v := undef) (a' := ?_) (bb 33 65535) rfl rfl (by kernel_rfl) (fun _ _ _ h => h) (Or.inr ⟨by rfl, rfl⟩) ?_ ?_
        rotate_left
        · simp only [Act.put, sa, sz, ss, i64_w, i32_w]
          rfl
        refine pure_ (i := 16) (N := some 62) (v := undef) (a' := ?_) (bb 33 131071) rfl rfl (by kernel_rfl) (fun _ _ _ h => h) (Or.inr ⟨by rfl, rfl⟩) ?_ ?_
        rotate_left
        · simp only [Act.put, sa, sz, ss, i64_w, i32_w]
          rfl
        refine pure_ (i := 17) (N := some 63) (v := undef) (a' := ?_) (bb 33 262143) rfl rfl (by kernel_rfl) (fun _ _ _ h => h) (Or.inr ⟨by rfl, rfl⟩) ?_ ?_
        rotate_left
        · simp only [Act.put, sa, sz, ss, i64_w, i32_w]
          rfl
        refine pure_ (i := 18) (N := some 64) (v := undef) (a' := ?_) (bb 33 524287) rfl rfl (by kernel_rfl) (fun _ _ _ h => h) (Or.inr ⟨by rfl, rfl⟩) ?_ ?_
        rotate_left
        · simp only [Act.put, sa, sz, ss, i64_w, i32_w]
          rfl
        refine pure_ (i := 19) (N := some 65) (v := undef) (a' := ?_) (bb 33 1048575) rfl rfl (by kernel_rfl) (fun _ _ _ h => h) (Or.inr ⟨by rfl, rfl⟩) ?_ ?_
        rotate_left
        · simp only [Act.put, sa, sz, ss, i64_w, i32_w]
          rfl
        refine pure_ (i := 20) (N := some 66) (v := undef) (a' := ?_) (bb 33 2097151) rfl rfl (by kernel_rfl) (fun _ _ _ h => h) (Or.inr ⟨by rfl, rfl⟩) ?_ ?_
        rotate_left
        · simp only [Act.put, sa, sz, ss, i64_w, i32_w]
          rfl
        refine pure_ (i := 21) (N := some 67) (v := undef) (a' := ?_) (bb 33 4194303) rfl rfl (by kernel_rfl) (fun _ _ _ h => h) (Or.inr ⟨by rfl, rfl⟩) ?_ ?_
        rotate_left
        · simp only [Act.put, sa, sz, ss, i64_w, i32_w]
          rfl
        refine pure_ (i := 22) (N := some 68) (v := ?_) (a' := ?_) (bb 33 8388607) rfl rfl (by kernel_rfl) (fun _ _ _ h => h) (Or.inl ⟨by rfl, ?_⟩) ?_ ?_
        rotate_left
        · intro w'
          go_simp
          with_reducible rfl
        rotate_left
        · simp only [Act.put, sa, sz, ss, i64_w, i32_w]
          rfl
        refine pure_ (i := 23) (N := some 69) (v := ?_) (a' := ?_) (bb 33 16777215) rfl rfl (by kernel_rfl) (fun _ _ _ h => h) (Or.inl ⟨by rfl, ?_⟩) ?_ ?_
        rotate_left
        · intro w'
          go_simp
          with_reducible rfl
        rotate_left
        · simp only [Act.put, sa, sz, ss, i64_w, i32_w]
          rfl
        refine pure_ (i := 24) (N := some 70) (v := ?_) (a' := ?_) (bb 33 33554431) rfl rfl (by kernel_rfl) (fun _ _ _ h => h) (Or.inl ⟨by rfl, ?_⟩) ?_ ?_
        rotate_left
        · intro w'
          go_simp
          with_reducible rfl
        rotate_left
        · simp only [Act.put, sa, sz, ss, i64_w, i32_w]
          rfl
        refine pure_ (i := 25) (N := some 71) (v := ?_) (a' := ?_) (bb 33 67108863) rfl rfl (by kernel_rfl) (fun _ _ _ h => h) (Or.inl ⟨by rfl, ?_⟩) ?_ ?_
        rotate_left
        · intro w'
          go_simp
          with_reducible rfl
        rotate_left
        · simp only [Act.put, sa, sz, ss, i64_w, i32_w]
          rfl
        refine pure_ (i := 26) (N := some 72) (v := ?_) (a' := ?_) (bb 33 134217727) rfl rfl (by kernel_rfl) (fun _ _ _ h => h) (Or.inl ⟨by rfl, ?_⟩) ?_ ?_
        rotate_left
        · intro w'
          go_simp
          with_reducible rfl
        rotate_left
        · simp only [Act.put, sa, sz, ss, i64_w, i32_w]
          rfl
        refine pure_ (i := 27) (N := some 73) (v := ?_) (a' := ?_) (bb 33 268435455) rfl rfl (by kernel_rfl) (fun _ _ _ h => h) (Or.inl ⟨by rfl, ?_⟩) ?_ ?_
        rotate_left
        · intro w'
          go_simp
          with_reducible rfl
        rotate_left
        · simp only [Act.put, sa, sz, ss, i64_w, i32_w]
          rfl
        refine pure_ (i := 28) (N := some 74) (v := ?_) (a' := ?_) (bb 33 536870911) rfl rfl (by kernel_rfl) (fun _ _ _ h => h) (Or.inl ⟨by rfl, ?_⟩) ?_ ?_
        rotate_left
        · intro w'
          go_simp
          with_reducible rfl
        rotate_left
        · simp only [Act.put, sa, sz, ss, i64_w, i32_w]
          rfl
        refine take_ (i := 29) (N := some 75) (v := ?_) (a' := ?_) (bb 33 1073741823) rfl rfl (by kernel_rfl) (fun _ _ _ h => h) (Or.inl ⟨by rfl, ?_⟩) hHeld ?_ ?_
        rotate_left
        · rintro w' ⟨s1_, s2_, s3_, s4_⟩
          go_simp
          with_reducible rfl
        rotate_left
        · simp only [Act.put, sa, sz, ss, i64_w, i32_w]
          rfl
        refine pure_ (i := 30) (N := some 76) (v := ?_) (a' := ?_) (bb 33 2147483647) rfl rfl (by kernel_rfl) (fun _ _ _ h => h) (Or.inl ⟨by rfl, ?_⟩) ?_ ?_
        rotate_left
        · intro w'
          go_simp
          with_reducible rfl
        rotate_left
        · simp only [Act.put, sa, sz, ss, i64_w, i32_w]
          rfl
        refine pure_ (i := 31) (N := some 77) (v := ?_) (a' := ?_) (bb 33 4294967295) rfl rfl (by kernel_rfl) (fun _ _ _ h => h) (Or.inl ⟨by rfl, ?_⟩) ?_ ?_
        rotate_left
        · intro w'
          go_simp
          with_reducible rfl
        rotate_left
        · simp only [Act.put, sa, sz, ss, i64_w, i32_w]
          rfl
        refine pure_ (i := 32) (N := some 78) (v := ?_) (a' := ?_) (bb 33 8589934591) rfl rfl (by kernel_rfl) (fun _ _ _ h => h) (Or.inl ⟨by rfl, ?_⟩) ?_ ?_
        rotate_left
        · intro w'
          go_simp
          with_reducible rfl
        rotate_left
        · simp only [Act.put, sa, sz, ss, i64_w, i32_w]
          rfl
        refine done_ (by kernel_rfl) ?_
        have HBE := Aside0.mk hHeld.2.2.2
        clear hHeld hS
        clear t1 r1
        go_upto_region 9 with (fail)
      case' inr =>
        obtain ⟨p, hp⟩ : ∃ p, i = p + 1 := ⟨i - 1, by omega⟩
        obtain ⟨y0, hy0⟩ : ∃ y0, l[p]? = some y0 := ⟨_, List.getElem?_eq_getElem (by have := HLT.out; omega)⟩
        obtain ⟨g0', o0', Ay0, cy0, e0, -, p0, -⟩ := HNW.out.at hy0
        obtain ⟨rfl, rfl⟩ : g0 = g0' ∧ o0 = o0' := by simpa using e0
        have HY0 := Aside0.mk hy0
        have HIP := Aside0.mk hp
        have t1 : decide (0 < iv) = true := decide_eq_true (by have := HIV.out; omega)
        have v1 : (iv - 1).toNat = p := by have := HIV.out; omega
        have v2 : (0 : Int) ≤ iv - 1 := by have := HIV.out; omega
        have v3 : (1 : Int) ≤ iv := by omega
        have v4 : iv ≤ (l.length : Int) := by have := HIV.out; have := HLT.out; omega
        have v5 : (iv - 1 < (l.length : Int)) = True := eq_true (by omega)
        have v6 : ((0 : Int) ≤ iv - 1) = True := eq_true v2
        have v7 : ((1 : Int) ≤ iv) = True := eq_true v3
        have v8 : (iv ≤ (l.length : Int)) = True := eq_true v4
        clear hy0 e0 hp hi0
        by_cases hle : x.1 ≤ y0.1
        · have t2 : decide (x.1 ≤ y0.1) = true := decide_eq_true hle
          have HNO : Aside0 (¬ LoadP next l) := ⟨fun h => by
            obtain ⟨h1, e1⟩ := List.getElem?_eq_some_iff.1 HY0.out
            obtain ⟨h2, e2⟩ := List.getElem?_eq_some_iff.1 HX.out
            have := asc_get h.asc (show p < i by have := HIP.out; omega) h2
            rw [e1, e2] at this
            omega⟩
          clear hle
          have hS : wr.drew.cell? ⟨g0, o0 + i * 3, none⟩ = some (.int .i64 x.1) ∧ wr.drew.cell? ⟨g0, o0 + i * 3 + 1, none⟩ = some (.int .i64 x.2.kind) ∧ wr.drew.cell? ⟨g0, o0 + i * 3 + 2, none⟩ = some (.slice Ax x.2.links.length cx) ∧ wr.drew.cell? ⟨g0, o0 + p * 3, none⟩ = some (.int .i64 y0.1) ∧ Below wr.heap.size wr wr.drew := ⟨y1, y2, y3, p0, below_drew (Below.refl _ _)⟩
          refine start_ (n := 33) (S := fun W' => W'.cell? ⟨g0, o0 + i * 3, none⟩ = some (.int .i64 x.1) ∧ W'.cell? ⟨g0, o0 + i * 3 + 1, none⟩ = some (.int .i64 x.2.kind) ∧ W'.cell? ⟨g0, o0 + i * 3 + 2, none⟩ = some (.slice Ax x.2.links.length cx) ∧ W'.cell? ⟨g0, o0 + p * 3, none⟩ = some (.int .i64 y0.1) ∧ Below wr.heap.size wr W') (ds := []) #[false, false, false, false, false, false, false, false, false, false, false, false, false, false, false, false, false, false, false, false, false, false, false, false, false, false, false, false, false, false, false, false, false] (by kernel_rfl) rfl rfl hS (fun hHeld => ?_)
          refine pure_ (i := 0) (N := some 46) (v := ?_) (a' := ?_) (bb 33 1) rfl rfl (by kernel_rfl) (fun _ _ _ h => h) (Or.inl ⟨by rfl, ?_⟩) ?_ ?_
          rotate_left
          · intro w'
            go_simp
            with_reducible rfl
          rotate_left
          · simp only [Act.put, sa, sz, ss, i64_w, i32_w]
            rfl
          refine pure_ (i := 1) (N := some 47) (v := ?_) (a' := ?_) (bb 33 3) rfl rfl (by kernel_rfl) (fun _ _ _ h => h) (Or.inl ⟨by rfl, ?_⟩) ?_ ?_
          rotate_left
          · intro w'
            go_simp
            with_reducible rfl
          rotate_left
          · simp only [Act.put, sa, sz, ss, i64_w, i32_w]
            rfl
          refine pure_ (i := 2) (N := some 48) (v := ?_) (a' := ?_) (bb 33 7) rfl rfl (by kernel_rfl) (fun _ _ _ h => h) (Or.inl ⟨by rfl, ?_⟩) ?_ ?_
          rotate_left
          · intro w'
            go_simp
            with_reducible rfl
          rotate_left
          · simp only [Act.put, sa, sz, ss, i64_w, i32_w]
            rfl
          refine take_ (i := 3) (N := some 49) (v := ?_) (a' := ?_) (bb 33 15) rfl rfl (by kernel_rfl) (fun _ _ _ h => h) (Or.inl ⟨by rfl, ?_⟩) hHeld ?_ ?_
          rotate_left
          · rintro w' ⟨s1_, s2_, s3_, s4_, s5_⟩
            go_simp
            with_reducible rfl
          rotate_left
          · simp only [Act.put, sa, sz, ss, i64_w, i32_w]
            rfl
          refine one_ (i := 4) (N := some 50) (bb 33 31) rfl rfl (by kernel_rfl) (by decide) (fun K hK => ?_)
          skip
          refine goes_ Tryz.func53 (by kernel_rfl) rfl #[.agg #[.int .i64 x.1, .int .i64 x.2.kind, .slice Ax x.2.links.length cx]] (by rfl) rfl rfl (by (simp only [List.map_toArray, List.map_cons, List.map_nil]); rfl) ?_
          refine (rnode_calls _ x.1 x.2.kind Ax cx x.2.links (HLR.out.below hHeld.2.2.2.2) HXB.out).mono ?_
          rintro e_ w7 ⟨bm, rfl, hbm, hb7⟩
          obtain rfl : bm = true := hbm.2 HMX.out
          refine ⟨_, rfl, ?_⟩
          refine hK.out _ _ ⟨(hb7.cell (World.block_lt_of_cell? _ _ hHeld.1)).trans hHeld.1, (hb7.cell (World.block_lt_of_cell? _ _ hHeld.2.1)).trans hHeld.2.1, (hb7.cell (World.block_lt_of_cell? _ _ hHeld.2.2.1)).trans hHeld.2.2.1, (hb7.cell (World.block_lt_of_cell? _ _ hHeld.2.2.2.1)).trans hHeld.2.2.2.1, hHeld.2.2.2.2.trans (hb7.mono hHeld.2.2.2.2.size)⟩ (fun hHeld => ?_)
          clear hK K
          refine norm_ (a' := ?_) ?_ ?_
          rotate_left
          · show Act.put _ (some 50) _ = _
            simp only [Act.put, sa, sz, ss, i64_w, i32_w]
            rfl
          clear hb7 hbm
          refine pure_ (i := 5) (N := some 51) (v := ?_) (a' := ?_) (bb 33 63) rfl rfl (by kernel_rfl) (fun _ _ _ h => h) (Or.inl ⟨by rfl, ?_⟩) ?_ ?_
          rotate_left
          · intro w'
            go_simp
            with_reducible rfl
          rotate_left
          · simp only [Act.put, sa, sz, ss, i64_w, i32_w]
            rfl
          refine pure_ (i := 6) (N := some 52) (v := ?_) (a' := ?_) (bb 33 127) rfl rfl (by kernel_rfl) (fun _ _ _ h => h) (Or.inl ⟨by rfl, ?_⟩) ?_ ?_
          rotate_left
          · intro w'
            go_simp
            with_reducible rfl
          rotate_left
          · simp only [Act.put, sa, sz, ss, i64_w, i32_w]
            rfl
          refine pure_ (i := 7) (N := some 53) (v := ?_) (a' := ?_) (bb 33 255) rfl rfl (by kernel_rfl) (fun _ _ _ h => h) (Or.inl ⟨by rfl, ?_⟩) ?_ ?_
          rotate_left
          · intro w'
            go_simp
            with_reducible rfl
          rotate_left
          · simp only [Act.put, sa, sz, ss, i64_w, i32_w]
            rfl
          refine pure_ (i := 8) (N := some 54) (v := ?_) (a' := ?_) (bb 33 511) rfl rfl (by kernel_rfl) (fun _ _ _ h => h) (Or.inl ⟨by rfl, ?_⟩) ?_ ?_
          rotate_left
          · intro w'
            go_simp
            with_reducible rfl
          rotate_left
          · simp only [Act.put, sa, sz, ss, i64_w, i32_w]
            rfl
          refine pure_ (i := 9) (N := some 55) (v := ?_) (a' := ?_) (bb 33 1023) rfl rfl (by kernel_rfl) (fun _ _ _ h => h) (Or.inl ⟨by rfl, ?_⟩) ?_ ?_
          rotate_left
          · intro w'
            go_simp
            with_reducible rfl
          rotate_left
          · simp only [Act.put, sa, sz, ss, i64_w, i32_w]
            rfl
          refine pure_ (i := 10) (N := some 56) (v := ?_) (a' := ?_) (bb 33 2047) rfl rfl (by kernel_rfl) (fun _ _ _ h => h) (Or.inl ⟨by rfl, ?_⟩) ?_ ?_
          rotate_left
          · intro w'
            go_simp
            with_reducible rfl
          rotate_left
          · simp only [Act.put, sa, sz, ss, i64_w, i32_w]
            rfl
          refine pure_ (i := 11) (N := some 57) (v := ?_) (a' := ?_) (bb 33 4095) rfl rfl (by kernel_rfl) (fun _ _ _ h => h) (Or.inl ⟨by rfl, ?_⟩) ?_ ?_
          rotate_left
          · intro w'
            go_simp
            with_reducible rfl
          rotate_left
          · simp only [Act.put, sa, sz, ss, i64_w, i32_w]
            rfl
          refine pure_ (i := 12) (N := some 58) (v := ?_) (a' := ?_) (bb 33 8191) rfl rfl (by kernel_rfl) (fun _ _ _ h => h) (Or.inl ⟨by rfl, ?_⟩) ?_ ?_
          rotate_left
          · intro w'
            go_simp
            with_reducible rfl
          rotate_left
          · simp only [Act.put, sa, sz, ss, i64_w, i32_w]
            rfl
          refine pure_ (i := 13) (N := some 59) (v := ?_) (a' := ?_) (bb 33 16383) rfl rfl (by kernel_rfl) (fun _ _ _ h => h) (Or.inl ⟨by rfl, ?_⟩) ?_ ?_
          rotate_left
          · intro w'
            go_simp
            with_reducible rfl
          rotate_left
          · simp only [Act.put, sa, sz, ss, i64_w, i32_w]
            rfl
          refine take_ (i := 14) (N := some 60) (v := ?_) (a' := ?_) (bb 33 32767) rfl rfl (by kernel_rfl) (fun _ _ _ h => h) (Or.inl ⟨by rfl, ?_⟩) hHeld ?_ ?_
          rotate_left
          · rintro w' ⟨s1_, s2_, s3_, s4_, s5_⟩
            go_simp
            with_reducible rfl
          rotate_left
          · simp only [Act.put, sa, sz, ss, i64_w, i32_w]
            rfl
          refine pure_ (i := 15) (N := some 61) (v := ?_) (a' := ?_) (bb 33 65535) rfl rfl (by kernel_rfl) (fun _ _ _ h => h) (Or.inl ⟨by rfl, ?_⟩) ?_ ?_
          rotate_left
          · intro w'
            go_simp
            with_reducible rfl
          rotate_left
          · simp only [Act.put, sa, sz, ss, i64_w, i32_w]
            rfl
          refine pure_ (i := 16) (N := some 62) (v := ?_) (a' := ?_) (bb 33 131071) rfl rfl (by kernel_rfl) (fun _ _ _ h => h) (Or.inl ⟨by rfl, ?_⟩) ?_ ?_
          rotate_left
          · intro w'
            go_simp
            with_reducible rfl
          rotate_left
          · simp only [Act.put, sa, sz, ss, i64_w, i32_w]
            rfl
          refine pure_ (i := 17) (N := some 63) (v := ?_) (a' := ?_) (bb 33 262143) rfl rfl (by kernel_rfl) (fun _ _ _ h => h) (Or.inl ⟨by rfl, ?_⟩) ?_ ?_
          rotate_left
          · intro w'
            go_simp
            with_reducible rfl
          rotate_left
          · simp only [Act.put, sa, sz, ss, i64_w, i32_w]
            rfl
          refine pure_ (i := 18) (N := some 64) (v := ?_) (a' := ?_) (bb 33 524287) rfl rfl (by kernel_rfl) (fun _ _ _ h => h) (Or.inl ⟨by rfl, ?_⟩) ?_ ?_
          rotate_left
          · intro w'
            go_simp
            with_reducible rfl
          rotate_left
          · simp only [Act.put, sa, sz, ss, i64_w, i32_w]
            rfl
          refine pure_ (i := 19) (N := some 65) (v := ?_) (a' := ?_) (bb 33 1048575) rfl rfl (by kernel_rfl) (fun _ _ _ h => h) (Or.inl ⟨by rfl, ?_⟩) ?_ ?_
          rotate_left
          · intro w'
            go_simp
            with_reducible rfl
          rotate_left
          · simp only [Act.put, sa, sz, ss, i64_w, i32_w]
            rfl
          refine take_ (i := 20) (N := some 66) (v := ?_) (a' := ?_) (bb 33 2097151) rfl rfl (by kernel_rfl) (fun _ _ _ h => h) (Or.inl ⟨by rfl, ?_⟩) hHeld ?_ ?_
          rotate_left
          · rintro w' ⟨s1_, s2_, s3_, s4_, s5_⟩
            go_simp
            with_reducible rfl
          rotate_left
          · simp only [Act.put, sa, sz, ss, i64_w, i32_w]
            rfl
          refine pure_ (i := 21) (N := some 67) (v := ?_) (a' := ?_) (bb 33 4194303) rfl rfl (by kernel_rfl) (fun _ _ _ h => h) (Or.inl ⟨by rfl, ?_⟩) ?_ ?_
          rotate_left
          · intro w'
            go_simp
            with_reducible rfl
          rotate_left
          · simp only [Act.put, sa, sz, ss, i64_w, i32_w]
            rfl
          refine pure_ (i := 22) (N := some 68) (v := ?_) (a' := ?_) (bb 33 8388607) rfl rfl (by kernel_rfl) (fun _ _ _ h => h) (Or.inl ⟨by rfl, ?_⟩) ?_ ?_
          rotate_left
          · intro w'
            go_simp
            with_reducible rfl
          rotate_left
          · simp only [Act.put, sa, sz, ss, i64_w, i32_w]
            rfl
          refine pure_ (i := 23) (N := some 69) (v := ?_) (a' := ?_) (bb 33 16777215) rfl rfl (by kernel_rfl) (fun _ _ _ h => h) (Or.inl ⟨by rfl, ?_⟩) ?_ ?_
          rotate_left
          · intro w'
            go_simp
            with_reducible rfl
          rotate_left
          · simp only [Act.put, sa, sz, ss, i64_w, i32_w]
            rfl
          refine pure_ (i := 24) (N := some 70) (v := ?_) (a' := ?_) (bb 33 33554431) rfl rfl (by kernel_rfl) (fun _ _ _ h => h) (Or.inl ⟨by rfl, ?_⟩) ?_ ?_
          rotate_left
          · intro w'
            go_simp
            with_reducible rfl
          rotate_left
          · simp only [Act.put, sa, sz, ss, i64_w, i32_w]
            rfl
          refine pure_ (i := 25) (N := some 71) (v := undef) (a' := ?_) (bb 33 67108863) rfl rfl (by kernel_rfl) (fun _ _ _ h => h) (Or.inr ⟨by rfl, rfl⟩) ?_ ?_
          rotate_left
          · simp only [Act.put, sa, sz, ss, i64_w, i32_w]
            rfl
          refine pure_ (i := 26) (N := some 72) (v := undef) (a' := ?_) (bb 33 134217727) rfl rfl (by kernel_rfl) (fun _ _ _ h => h) (Or.inr ⟨by rfl, rfl⟩) ?_ ?_
          rotate_left
          · simp only [Act.put, sa, sz, ss, i64_w, i32_w]
            rfl
          refine pure_ (i := 27) (N := some 73) (v := undef) (a' := ?_) (bb 33 268435455) rfl rfl (by kernel_rfl) (fun _ _ _ h => h) (Or.inr ⟨by rfl, rfl⟩) ?_ ?_
          rotate_left
          · simp only [Act.put, sa, sz, ss, i64_w, i32_w]
            rfl
          refine pure_ (i := 28) (N := some 74) (v := undef) (a' := ?_) (bb 33 536870911) rfl rfl (by kernel_rfl) (fun _ _ _ h => h) (Or.inr ⟨by rfl, rfl⟩) ?_ ?_
          rotate_left
          · simp only [Act.put, sa, sz, ss, i64_w, i32_w]
            rfl
          refine pure_ (i := 29) (N := some 75) (v := undef) (a' := ?_) (bb 33 1073741823) rfl rfl (by kernel_rfl) (fun _ _ _ h => h) (Or.inr ⟨by rfl, rfl⟩) ?_ ?_
          rotate_left
          · simp only [Act.put, sa, sz, ss, i64_w, i32_w]
            rfl
          refine pure_ (i := 30) (N := some 76) (v := undef) (a' := ?_) (bb 33 2147483647) rfl rfl (by kernel_rfl) (fun _ _ _ h => h) (Or.inr ⟨by rfl, rfl⟩) ?_ ?_
          rotate_left
          · simp only [Act.put, sa, sz, ss, i64_w, i32_w]
            rfl
          refine pure_ (i := 31) (N := some 77) (v := undef) (a' := ?_) (bb 33 4294967295) rfl rfl (by kernel_rfl) (fun _ _ _ h => h) (Or.inr ⟨by rfl, rfl⟩) ?_ ?_
          rotate_left
          · simp only [Act.put, sa, sz, ss, i64_w, i32_w]
            rfl
          refine pure_ (i := 32) (N := some 78) (v := ?_) (a' := ?_) (bb 33 8589934591) rfl rfl (by kernel_rfl) (fun _ _ _ h => h) (Or.inl ⟨by rfl, ?_⟩) ?_ ?_
          rotate_left
          · intro w'
            go_simp
            with_reducible rfl
          rotate_left
          · simp only [Act.put, sa, sz, ss, i64_w, i32_w]
            rfl
          refine done_ (by kernel_rfl) ?_
          have HBE := Aside0.mk hHeld.2.2.2.2
          clear hHeld hS
          go_wp2
          go_ret2
          exact rld_no HNO.out (HB.out.trans (HBE.out.mono HB.out.size))
        have t2 : decide (x.1 ≤ y0.1) = false := decide_eq_false hle
        have HAS2 : Aside0 (Asc (l.take (i + 1))) := ⟨asc_take HAS.out HX.out (fun q y hq hy => by have h1 := HIP.out; have h2 : q = p := by omega
                                                                                                   rw [h2, HY0.out] at hy; rw [← Option.some.inj hy]; omega)⟩
        clear hle
        by_cases hnb : next ≤ x.1
        · have r1 : decide (next ≤ x.1) = true := decide_eq_true hnb
          have HNO : Aside0 (¬ LoadP next l) := ⟨fun h => by have := h.below x HXM.out; omega⟩
          clear hnb
          have hS : wr.drew.cell? ⟨g0, o0 + i * 3, none⟩ = some (.int .i64 x.1) ∧ wr.drew.cell? ⟨g0, o0 + i * 3 + 1, none⟩ = some (.int .i64 x.2.kind) ∧ wr.drew.cell? ⟨g0, o0 + i * 3 + 2, none⟩ = some (.slice Ax x.2.links.length cx) ∧ wr.drew.cell? ⟨g0, o0 + p * 3, none⟩ = some (.int .i64 y0.1) ∧ Below wr.heap.size wr wr.drew := ⟨y1, y2, y3, p0, below_drew (Below.refl _ _)⟩
          refine start_ (n := 33) (S := fun W' => W'.cell? ⟨g0, o0 + i * 3, none⟩ = some (.int .i64 x.1) ∧ W'.cell? ⟨g0, o0 + i * 3 + 1, none⟩ = some (.int .i64 x.2.kind) ∧ W'.cell? ⟨g0, o0 + i * 3 + 2, none⟩ = some (.slice Ax x.2.links.length cx) ∧ W'.cell? ⟨g0, o0 + p * 3, none⟩ = some (.int .i64 y0.1) ∧ Below wr.heap.size wr W') (ds := []) #[false, false, false, false, false, false, false, false, false, false, false, false, false, false, false, false, false, false, false, false, false, false, false, false, false, false, false, false, false, false, false, false, false] (by kernel_rfl) rfl rfl hS (fun hHeld => ?_)
          refine pure_ (i := 0) (N := some 46) (v := ?_) (a' := ?_) (bb 33 1) rfl rfl (by kernel_rfl) (fun _ _ _ h => h) (Or.inl ⟨by rfl, ?_⟩) ?_ ?_
          rotate_left
          · intro w'
            go_simp
            with_reducible rfl
          rotate_left
          · simp only [Act.put, sa, sz, ss, i64_w, i32_w]
            rfl
          refine pure_ (i := 1) (N := some 47) (v := ?_) (a' := ?_) (bb 33 3) rfl rfl (by kernel_rfl) (fun _ _ _ h => h) (Or.inl ⟨by rfl, ?_⟩) ?_ ?_
          rotate_left
          · intro w'
            go_simp
            with_reducible rfl
          rotate_left
          · simp only [Act.put, sa, sz, ss, i64_w, i32_w]
            rfl
          refine pure_ (i := 2) (N := some 48) (v := ?_) (a' := ?_) (bb 33 7) rfl rfl (by kernel_rfl) (fun _ _ _ h => h) (Or.inl ⟨by rfl, ?_⟩) ?_ ?_
          rotate_left
          · intro w'
            go_simp
            with_reducible rfl
          rotate_left
          · simp only [Act.put, sa, sz, ss, i64_w, i32_w]
            rfl
          refine take_ (i := 3) (N := some 49) (v := ?_) (a' := ?_) (bb 33 15) rfl rfl (by kernel_rfl) (fun _ _ _ h => h) (Or.inl ⟨by rfl, ?_⟩) hHeld ?_ ?_
          rotate_left
          · rintro w' ⟨s1_, s2_, s3_, s4_, s5_⟩
            go_simp
            with_reducible rfl
          rotate_left
          · simp only [Act.put, sa, sz, ss, i64_w, i32_w]
            rfl
          refine one_ (i := 4) (N := some 50) (bb 33 31) rfl rfl (by kernel_rfl) (by decide) (fun K hK => ?_)
          skip
          refine goes_ Tryz.func53 (by kernel_rfl) rfl #[.agg #[.int .i64 x.1, .int .i64 x.2.kind, .slice Ax x.2.links.length cx]] (by rfl) rfl rfl (by (simp only [List.map_toArray, List.map_cons, List.map_nil]); rfl) ?_
          refine (rnode_calls _ x.1 x.2.kind Ax cx x.2.links (HLR.out.below hHeld.2.2.2.2) HXB.out).mono ?_
          rintro e_ w7 ⟨bm, rfl, hbm, hb7⟩
          obtain rfl : bm = true := hbm.2 HMX.out
          refine ⟨_, rfl, ?_⟩
          refine hK.out _ _ ⟨(hb7.cell (World.block_lt_of_cell? _ _ hHeld.1)).trans hHeld.1, (hb7.cell (World.block_lt_of_cell? _ _ hHeld.2.1)).trans hHeld.2.1, (hb7.cell (World.block_lt_of_cell? _ _ hHeld.2.2.1)).trans hHeld.2.2.1, (hb7.cell (World.block_lt_of_cell? _ _ hHeld.2.2.2.1)).trans hHeld.2.2.2.1, hHeld.2.2.2.2.trans (hb7.mono hHeld.2.2.2.2.size)⟩ (fun hHeld => ?_)
          clear hK K
          refine norm_ (a' := ?_) ?_ ?_
          rotate_left
          · show Act.put _ (some 50) _ = _
            simp only [Act.put, sa, sz, ss, i64_w, i32_w]
            rfl
          clear hb7 hbm
          refine pure_ (i := 5) (N := some 51) (v := ?_) (a' := ?_) (bb 33 63) rfl rfl (by kernel_rfl) (fun _ _ _ h => h) (Or.inl ⟨by rfl, ?_⟩) ?_ ?_
          rotate_left
          · intro w'
            go_simp
            with_reducible rfl
          rotate_left
          · simp only [Act.put, sa, sz, ss, i64_w, i32_w]
            rfl
          refine pure_ (i := 6) (N := some 52) (v := ?_) (a' := ?_) (bb 33 127) rfl rfl (by kernel_rfl) (fun _ _ _ h => h) (Or.inl ⟨by rfl, ?_⟩) ?_ ?_
          rotate_left
          · intro w'
            go_simp
            with_reducible rfl
          rotate_left
          · simp only [Act.put, sa, sz, ss, i64_w, i32_w]
            rfl
          refine pure_ (i := 7) (N := some 53) (v := ?_) (a' := ?_) (bb 33 255) rfl rfl (by kernel_rfl) (fun _ _ _ h => h) (Or.inl ⟨by rfl, ?_⟩) ?_ ?_
          rotate_left
          · intro w'
            go_simp
            with_reducible rfl
          rotate_left
          · simp only [Act.put, sa, sz, ss, i64_w, i32_w]
            rfl
          refine pure_ (i := 8) (N := some 54) (v := ?_) (a' := ?_) (bb 33 511) rfl rfl (by kernel_rfl) (fun _ _ _ h => h) (Or.inl ⟨by rfl, ?_⟩) ?_ ?_
          rotate_left
          · intro w'
            go_simp
            with_reducible rfl
          rotate_left
          · simp only [Act.put, sa, sz, ss, i64_w, i32_w]
            rfl
          refine pure_ (i := 9) (N := some 55) (v := ?_) (a' := ?_) (bb 33 1023) rfl rfl (by kernel_rfl) (fun _ _ _ h => h) (Or.inl ⟨by rfl, ?_⟩) ?_ ?_
          rotate_left
          · intro w'
            go_simp
            with_reducible rfl
          rotate_left
          · simp only [Act.put, sa, sz, ss, i64_w, i32_w]
            rfl
          refine pure_ (i := 10) (N := some 56) (v := ?_) (a' := ?_) (bb 33 2047) rfl rfl (by kernel_rfl) (fun _ _ _ h => h) (Or.inl ⟨by rfl, ?_⟩) ?_ ?_
          rotate_left
          · intro w'
            go_simp
            with_reducible rfl
          rotate_left
          · simp only [Act.put, sa, sz, ss, i64_w, i32_w]
            rfl
          refine pure_ (i := 11) (N := some 57) (v := ?_) (a' := ?_) (bb 33 4095) rfl rfl (by kernel_rfl) (fun _ _ _ h => h) (Or.inl ⟨by rfl, ?_⟩) ?_ ?_
          rotate_left
          · intro w'
            go_simp
            with_reducible rfl
          rotate_left
          · simp only [Act.put, sa, sz, ss, i64_w, i32_w]
            rfl
          refine pure_ (i := 12) (N := some 58) (v := ?_) (a' := ?_) (bb 33 8191) rfl rfl (by kernel_rfl) (fun _ _ _ h => h) (Or.inl ⟨by rfl, ?_⟩) ?_ ?_
          rotate_left
          · intro w'
            go_simp
            with_reducible rfl
          rotate_left
          · simp only [Act.put, sa, sz, ss, i64_w, i32_w]
            rfl
          refine pure_ (i := 13) (N := some 59) (v := ?_) (a' := ?_) (bb 33 16383) rfl rfl (by kernel_rfl) (fun _ _ _ h => h) (Or.inl ⟨by rfl, ?_⟩) ?_ ?_
          rotate_left
          · intro w'
            go_simp
            with_reducible rfl
          rotate_left
          · simp only [Act.put, sa, sz, ss, i64_w, i32_w]
            rfl
          refine take_ (i := 14) (N := some 60) (v := ?_) (a' := ?_) (bb 33 32767) rfl rfl (by kernel_rfl) (fun _ _ _ h => h) (Or.inl ⟨by rfl, ?_⟩) hHeld ?_ ?_
          rotate_left
          · rintro w' ⟨s1_, s2_, s3_, s4_, s5_⟩
            go_simp
            with_reducible rfl
          rotate_left
          · simp only [Act.put, sa, sz, ss, i64_w, i32_w]
            rfl
          refine pure_ (i := 15) (N := some 61) (v := ?_) (a' := ?_) (bb 33 65535) rfl rfl (by kernel_rfl) (fun _ _ _ h => h) (Or.inl ⟨by rfl, ?_⟩) ?_ ?_
          rotate_left
          · intro w'
            go_simp
            with_reducible rfl
          rotate_left
          · simp only [Act.put, sa, sz, ss, i64_w, i32_w]
            rfl
          refine pure_ (i := 16) (N := some 62) (v := ?_) (a' := ?_) (bb 33 131071) rfl rfl (by kernel_rfl) (fun _ _ _ h => h) (Or.inl ⟨by rfl, ?_⟩) ?_ ?_
          rotate_left
          · intro w'
            go_simp
            with_reducible rfl
          rotate_left
          · simp only [Act.put, sa, sz, ss, i64_w, i32_w]
            rfl
          refine pure_ (i := 17) (N := some 63) (v := ?_) (a' := ?_) (bb 33 262143) rfl rfl (by kernel_rfl) (fun _ _ _ h => h) (Or.inl ⟨by rfl, ?_⟩) ?_ ?_
          rotate_left
          · intro w'
            go_simp
            with_reducible rfl
          rotate_left
          · simp only [Act.put, sa, sz, ss, i64_w, i32_w]
            rfl
          refine pure_ (i := 18) (N := some 64) (v := ?_) (a' := ?_) (bb 33 524287) rfl rfl (by kernel_rfl) (fun _ _ _ h => h) (Or.inl ⟨by rfl, ?_⟩) ?_ ?_
          rotate_left
          · intro w'
            go_simp
            with_reducible rfl
          rotate_left
          · simp only [Act.put, sa, sz, ss, i64_w, i32_w]
            rfl
          refine pure_ (i := 19) (N := some 65) (v := ?_) (a' := ?_) (bb 33 1048575) rfl rfl (by kernel_rfl) (fun _ _ _ h => h) (Or.inl ⟨by rfl, ?_⟩) ?_ ?_
          rotate_left
          · intro w'
            go_simp
            with_reducible rfl
          rotate_left
          · simp only [Act.put, sa, sz, ss, i64_w, i32_w]
            rfl
          refine take_ (i := 20) (N := some 66) (v := ?_) (a' := ?_) (bb 33 2097151) rfl rfl (by kernel_rfl) (fun _ _ _ h => h) (Or.inl ⟨by rfl, ?_⟩) hHeld ?_ ?_
          rotate_left
          · rintro w' ⟨s1_, s2_, s3_, s4_, s5_⟩
            go_simp
            with_reducible rfl
          rotate_left
          · simp only [Act.put, sa, sz, ss, i64_w, i32_w]
            rfl
          refine pure_ (i := 21) (N := some 67) (v := ?_) (a' := ?_) (bb 33 4194303) rfl rfl (by kernel_rfl) (fun _ _ _ h => h) (Or.inl ⟨by rfl, ?_⟩) ?_ ?_
          rotate_left
          · intro w'
            go_simp
            with_reducible rfl
          rotate_left
          · simp only [Act.put, sa, sz, ss, i64_w, i32_w]
            rfl
          refine pure_ (i := 22) (N := some 68) (v := ?_) (a' := ?_) (bb 33 8388607) rfl rfl (by kernel_rfl) (fun _ _ _ h => h) (Or.inl ⟨by rfl, ?_⟩) ?_ ?_
          rotate_left
          · intro w'
            go_simp
            with_reducible rfl
          rotate_left
          · simp only [Act.put, sa, sz, ss, i64_w, i32_w]
            rfl
          refine pure_ (i := 23) (N := some 69) (v := ?_) (a' := ?_) (bb 33 16777215) rfl rfl (by kernel_rfl) (fun _ _ _ h => h) (Or.inl ⟨by rfl, ?_⟩) ?_ ?_
          rotate_left
          · intro w'
            go_simp
            with_reducible rfl
          rotate_left
          · simp only [Act.put, sa, sz, ss, i64_w, i32_w]
            rfl
          refine pure_ (i := 24) (N := some 70) (v := ?_) (a' := ?_) (bb 33 33554431) rfl rfl (by kernel_rfl) (fun _ _ _ h => h) (Or.inl ⟨by rfl, ?_⟩) ?_ ?_
          rotate_left
          · intro w'
            go_simp
            with_reducible rfl
          rotate_left
          · simp only [Act.put, sa, sz, ss, i64_w, i32_w]
            rfl
          refine pure_ (i := 25) (N := some 71) (v := ?_) (a' := ?_) (bb 33 67108863) rfl rfl (by kernel_rfl) (fun _ _ _ h => h) (Or.inl ⟨by rfl, ?_⟩) ?_ ?_
          rotate_left
          · intro w'
            go_simp
            with_reducible rfl
          rotate_left
          · simp only [Act.put, sa, sz, ss, i64_w, i32_w]
            rfl
          refine pure_ (i := 26) (N := some 72) (v := ?_) (a' := ?_) (bb 33 134217727) rfl rfl (by kernel_rfl) (fun _ _ _ h => h) (Or.inl ⟨by rfl, ?_⟩) ?_ ?_
          rotate_left
          · intro w'
            go_simp
            with_reducible rfl
          rotate_left
          · simp only [Act.put, sa, sz, ss, i64_w, i32_w]
            rfl
          refine pure_ (i := 27) (N := some 73) (v := ?_) (a' := ?_) (bb 33 268435455) rfl rfl (by kernel_rfl) (fun _ _ _ h => h) (Or.inl ⟨by rfl, ?_⟩) ?_ ?_
          rotate_left
          · intro w'
            go_simp
            with_reducible rfl
          rotate_left
          · simp only [Act.put, sa, sz, ss, i64_w, i32_w]
            rfl
          refine pure_ (i := 28) (N := some 74) (v := ?_) (a' := ?_) (bb 33 536870911) rfl rfl (by kernel_rfl) (fun _ _ _ h => h) (Or.inl ⟨by rfl, ?_⟩) ?_ ?_
          rotate_left
          · intro w'
            go_simp
            with_reducible rfl
          rotate_left
          · simp only [Act.put, sa, sz, ss, i64_w, i32_w]
            rfl
          refine take_ (i := 29) (N := some 75) (v := ?_) (a' := ?_) (bb 33 1073741823) rfl rfl (by kernel_rfl) (fun _ _ _ h => h) (Or.inl ⟨by rfl, ?_⟩) hHeld ?_ ?_
          rotate_left
          · rintro w' ⟨s1_, s2_, s3_, s4_, s5_⟩
            go_simp
            with_reducible rfl
          rotate_left
          · simp only [Act.put, sa, sz, ss, i64_w, i32_w]
            rfl
          refine pure_ (i := 30) (N := some 76) (v := ?_) (a' := ?_) (bb 33 2147483647) rfl rfl (by kernel_rfl) (fun _ _ _ h => h) (Or.inl ⟨by rfl, ?_⟩) ?_ ?_
          rotate_left
          · intro w'
            go_simp
            with_reducible rfl
          rotate_left
          · simp only [Act.put, sa, sz, ss, i64_w, i32_w]
            rfl
          refine pure_ (i := 31) (N := some 77) (v := ?_) (a' := ?_) (bb 33 4294967295) rfl rfl (by kernel_rfl) (fun _ _ _ h => h) (Or.inl ⟨by rfl, ?_⟩) ?_ ?_
          rotate_left
          · intro w'
            go_simp
            with_reducible rfl
          rotate_left
          · simp only [Act.put, sa, sz, ss, i64_w, i32_w]
            rfl
          refine pure_ (i := 32) (N := some 78) (v := ?_) (a' := ?_) (bb 33 8589934591) rfl rfl (by kernel_rfl) (fun _ _ _ h => h) (Or.inl ⟨by rfl, ?_⟩) ?_ ?_
          rotate_left
          · intro w'
            go_simp
            with_reducible rfl
          rotate_left
          · simp only [Act.put, sa, sz, ss, i64_w, i32_w]
            rfl
          refine done_ (by kernel_rfl) ?_
          have HBE := Aside0.mk hHeld.2.2.2.2
          clear hHeld hS
          go_wp2
          go_ret2
          exact rld_no HNO.out (HB.out.trans (HBE.out.mono HB.out.size))
        have r1 : decide (next ≤ x.1) = false := decide_eq_false hnb
        have HNB : Aside0 (x.1 < next) := ⟨by omega⟩
        clear hnb
        have hS : wr.drew.cell? ⟨g0, o0 + i * 3, none⟩ = some (.int .i64 x.1) ∧ wr.drew.cell? ⟨g0, o0 + i * 3 + 1, none⟩ = some (.int .i64 x.2.kind) ∧ wr.drew.cell? ⟨g0, o0 + i * 3 + 2, none⟩ = some (.slice Ax x.2.links.length cx) ∧ wr.drew.cell? ⟨g0, o0 + p * 3, none⟩ = some (.int .i64 y0.1) ∧ Below wr.heap.size wr wr.drew := ⟨y1, y2, y3, p0, below_drew (Below.refl _ _)⟩
        refine start_ (n := 33) (S := fun W' => W'.cell? ⟨g0, o0 + i * 3, none⟩ = some (.int .i64 x.1) ∧ W'.cell? ⟨g0, o0 + i * 3 + 1, none⟩ = some (.int .i64 x.2.kind) ∧ W'.cell? ⟨g0, o0 + i * 3 + 2, none⟩ = some (.slice Ax x.2.links.length cx) ∧ W'.cell? ⟨g0, o0 + p * 3, none⟩ = some (.int .i64 y0.1) ∧ Below wr.heap.size wr W') (ds := []) #[false, false, false, false, false, false, false, false, false, false, false, false, false, false, false, false, false, false, false, false, false, false, false, false, false, false, false, false, false, false, false, false, false] (by kernel_rfl) rfl rfl hS (fun hHeld => ?_)
        refine pure_ (i := 0) (N := some 46) (v := ?_) (a' := ?_) (bb 33 1) rfl rfl (by kernel_rfl) (fun _ _ _ h => h) (Or.inl ⟨by rfl, ?_⟩) ?_ ?_
        rotate_left
        · intro w'
          go_simp
          with_reducible rfl
        rotate_left
        · simp only [Act.put, sa, sz, ss, i64_w, i32_w]
          rfl
        refine pure_ (i := 1) (N := some 47) (v := ?_) (a' := ?_) (bb 33 3) rfl rfl (by kernel_rfl) (fun _ _ _ h => h) (Or.inl ⟨by rfl, ?_⟩) ?_ ?_
        rotate_left
        · intro w'
          go_simp
          with_reducible rfl
        rotate_left
        · simp only [Act.put, sa, sz, ss, i64_w, i32_w]
          rfl
        refine pure_ (i := 2) (N := some 48) (v := ?_) (a' := ?_) (bb 33 7) rfl rfl (by kernel_rfl) (fun _ _ _ h => h) (Or.inl ⟨by rfl, ?_⟩) ?_ ?_
        rotate_left
        · intro w'
          go_simp
          with_reducible rfl
        rotate_left
        · simp only [Act.put, sa, sz, ss, i64_w, i32_w]
          rfl
        refine take_ (i := 3) (N := some 49) (v := ?_) (a' := ?_) (bb 33 15) rfl rfl (by kernel_rfl) (fun _ _ _ h => h) (Or.inl ⟨by rfl, ?_⟩) hHeld ?_ ?_
        rotate_left
        · rintro w' ⟨s1_, s2_, s3_, s4_, s5_⟩
          go_simp
          with_reducible rfl
        rotate_left
        · simp only [Act.put, sa, sz, ss, i64_w, i32_w]
          rfl
        refine one_ (i := 4) (N := some 50) (bb 33 31) rfl rfl (by kernel_rfl) (by decide) (fun K hK => ?_)
        skip
        refine goes_ Tryz.func53 (by kernel_rfl) rfl #[.agg #[.int .i64 x.1, .int .i64 x.2.kind, .slice Ax x.2.links.length cx]] (by rfl) rfl rfl (by (simp only [List.map_toArray, List.map_cons, List.map_nil]); rfl) ?_
        refine (rnode_calls _ x.1 x.2.kind Ax cx x.2.links (HLR.out.below hHeld.2.2.2.2) HXB.out).mono ?_
        rintro e_ w7 ⟨bm, rfl, hbm, hb7⟩
        obtain rfl : bm = true := hbm.2 HMX.out
        refine ⟨_, rfl, ?_⟩
        refine hK.out _ _ ⟨(hb7.cell (World.block_lt_of_cell? _ _ hHeld.1)).trans hHeld.1, (hb7.cell (World.block_lt_of_cell? _ _ hHeld.2.1)).trans hHeld.2.1, (hb7.cell (World.block_lt_of_cell? _ _ hHeld.2.2.1)).trans hHeld.2.2.1, (hb7.cell (World.block_lt_of_cell? _ _ hHeld.2.2.2.1)).trans hHeld.2.2.2.1, hHeld.2.2.2.2.trans (hb7.mono hHeld.2.2.2.2.size)⟩ (fun hHeld => ?_)
        clear hK K
        refine norm_ (a' := ?_) ?_ ?_
        rotate_left
        · show Act.put _ (some 50) _ = _
          simp only [Act.put, sa, sz, ss, i64_w, i32_w]
          rfl
        clear hb7 hbm
        refine pure_ (i := 5) (N := some 51) (v := ?_) (a' := ?_) (bb 33 63) rfl rfl (by kernel_rfl) (fun _ _ _ h => h) (Or.inl ⟨by rfl, ?_⟩) ?_ ?_
        rotate_left
        · intro w'
          go_simp
          with_reducible rfl
        rotate_left
        · simp only [Act.put, sa, sz, ss, i64_w, i32_w]
          rfl
        refine pure_ (i := 6) (N := some 52) (v := ?_) (a' := ?_) (bb 33 127) rfl rfl (by kernel_rfl) (fun _ _ _ h => h) (Or.inl ⟨by rfl, ?_⟩) ?_ ?_
        rotate_left
        · intro w'
          go_simp
          with_reducible rfl
        rotate_left
        · simp only [Act.put, sa, sz, ss, i64_w, i32_w]
          rfl
        refine pure_ (i := 7) (N := some 53) (v := ?_) (a' := ?_) (bb 33 255) rfl rfl (by kernel_rfl) (fun _ _ _ h => h) (Or.inl ⟨by rfl, ?_⟩) ?_ ?_
        rotate_left
        · intro w'
          go_simp
          with_reducible rfl
        rotate_left
        · simp only [Act.put, sa, sz, ss, i64_w, i32_w]
          rfl
        refine pure_ (i := 8) (N := some 54) (v := ?_) (a' := ?_) (bb 33 511) rfl rfl (by kernel_rfl) (fun _ _ _ h => h) (Or.inl ⟨by rfl, ?_⟩) ?_ ?_
        rotate_left
        · intro w'
          go_simp
          with_reducible rfl
        rotate_left
        · simp only [Act.put, sa, sz, ss, i64_w, i32_w]
          rfl
        refine pure_ (i := 9) (N := some 55) (v := ?_) (a' := ?_) (bb 33 1023) rfl rfl (by kernel_rfl) (fun _ _ _ h => h) (Or.inl ⟨by rfl, ?_⟩) ?_ ?_
        rotate_left
        · intro w'
          go_simp
          with_reducible rfl
        rotate_left
        · simp only [Act.put, sa, sz, ss, i64_w, i32_w]
          rfl
        refine pure_ (i := 10) (N := some 56) (v := ?_) (a' := ?_) (bb 33 2047) rfl rfl (by kernel_rfl) (fun _ _ _ h => h) (Or.inl ⟨by rfl, ?_⟩) ?_ ?_
        rotate_left
        · intro w'
          go_simp
          with_reducible rfl
        rotate_left
        · simp only [Act.put, sa, sz, ss, i64_w, i32_w]
          rfl
        refine pure_ (i := 11) (N := some 57) (v := ?_) (a' := ?_) (bb 33 4095) rfl rfl (by kernel_rfl) (fun _ _ _ h => h) (Or.inl ⟨by rfl, ?_⟩) ?_ ?_
        rotate_left
        · intro w'
          go_simp
          with_reducible rfl
        rotate_left
        · simp only [Act.put, sa, sz, ss, i64_w, i32_w]
          rfl
        refine pure_ (i := 12) (N := some 58) (v := ?_) (a' := ?_) (bb 33 8191) rfl rfl (by kernel_rfl) (fun _ _ _ h => h) (Or.inl ⟨by rfl, ?_⟩) ?_ ?_
        rotate_left
        · intro w'
          go_simp
          with_reducible rfl
        rotate_left
        · simp only [Act.put, sa, sz, ss, i64_w, i32_w]
          rfl
        refine pure_ (i := 13) (N := some 59) (v := ?_) (a' := ?_) (bb 33 16383) rfl rfl (by kernel_rfl) (fun _ _ _ h => h) (Or.inl ⟨by rfl, ?_⟩) ?_ ?_
        rotate_left
        · intro w'
          go_simp
          with_reducible rfl
        rotate_left
        · simp only [Act.put, sa, sz, ss, i64_w, i32_w]
          rfl
        refine take_ (i := 14) (N := some 60) (v := ?_) (a' := ?_) (bb 33 32767) rfl rfl (by kernel_rfl) (fun _ _ _ h => h) (Or.inl ⟨by rfl, ?_⟩) hHeld ?_ ?_
        rotate_left
        · rintro w' ⟨s1_, s2_, s3_, s4_, s5_⟩
          go_simp
          with_reducible rfl
        rotate_left
        · simp only [Act.put, sa, sz, ss, i64_w, i32_w]
          rfl
        refine pure_ (i := 15) (N := some 61) (v := ?_) (a' := ?_) (bb 33 65535) rfl rfl (by kernel_rfl) (fun _ _ _ h => h) (Or.inl ⟨by rfl, ?_⟩) ?_ ?_
        rotate_left
        · intro w'
          go_simp
          with_reducible rfl
        rotate_left
        · simp only [Act.put, sa, sz, ss, i64_w, i32_w]
          rfl
        refine pure_ (i := 16) (N := some 62) (v := ?_) (a' := ?_) (bb 33 131071) rfl rfl (by kernel_rfl) (fun _ _ _ h => h) (Or.inl ⟨by rfl, ?_⟩) ?_ ?_
        rotate_left
        · intro w'
          go_simp
          with_reducible rfl
        rotate_left
        · simp only [Act.put, sa, sz, ss, i64_w, i32_w]
          rfl
        refine pure_ (i := 17) (N := some 63) (v := ?_) (a' := ?_) (bb 33 262143) rfl rfl (by kernel_rfl) (fun _ _ _ h => h) (Or.inl ⟨by rfl, ?_⟩) ?_ ?_
        rotate_left
        · intro w'
          go_simp
          with_reducible rfl
        rotate_left
        · simp only [Act.put, sa, sz, ss, i64_w, i32_w]
          rfl
        refine pure_ (i := 18) (N := some 64) (v := ?_) (a' := ?_) (bb 33 524287) rfl rfl (by kernel_rfl) (fun _ _ _ h => h) (Or.inl ⟨by rfl, ?_⟩) ?_ ?_
        rotate_left
        · intro w'
          go_simp
          with_reducible rfl
        rotate_left
        · simp only [Act.put, sa, sz, ss, i64_w, i32_w]
          rfl
        refine pure_ (i := 19) (N := some 65) (v := ?_) (a' := ?_) (bb 33 1048575) rfl rfl (by kernel_rfl) (fun _ _ _ h => h) (Or.inl ⟨by rfl, ?_⟩) ?_ ?_
        rotate_left
        · intro w'
          go_simp
          with_reducible rfl
        rotate_left
        · simp only [Act.put, sa, sz, ss, i64_w, i32_w]
          rfl
        refine take_ (i := 20) (N := some 66) (v := ?_) (a' := ?_) (bb 33 2097151) rfl rfl (by kernel_rfl) (fun _ _ _ h => h) (Or.inl ⟨by rfl, ?_⟩) hHeld ?_ ?_
        rotate_left
        · rintro w' ⟨s1_, s2_, s3_, s4_, s5_⟩
          go_simp
          with_reducible rfl
        rotate_left
        · simp only [Act.put, sa, sz, ss, i64_w, i32_w]
          rfl
        refine pure_ (i := 21) (N := some 67) (v := ?_) (a' := ?_) (bb 33 4194303) rfl rfl (by kernel_rfl) (fun _ _ _ h => h) (Or.inl ⟨by rfl, ?_⟩) ?_ ?_
        rotate_left
        · intro w'
          go_simp
          with_reducible rfl
        rotate_left
        · simp only [Act.put, sa, sz, ss, i64_w, i32_w]
          rfl
        refine pure_ (i := 22) (N := some 68) (v := ?_) (a' := ?_) (bb 33 8388607) rfl rfl (by kernel_rfl) (fun _ _ _ h => h) (Or.inl ⟨by rfl, ?_⟩) ?_ ?_
        rotate_left
        · intro w'
          go_simp
          with_reducible rfl
        rotate_left
        · simp only [Act.put, sa, sz, ss, i64_w, i32_w]
          rfl
        refine pure_ (i := 23) (N := some 69) (v := ?_) (a' := ?_) (bb 33 16777215) rfl rfl (by kernel_rfl) (fun _ _ _ h => h) (Or.inl ⟨by rfl, ?_⟩) ?_ ?_
        rotate_left
        · intro w'
          go_simp
          with_reducible rfl
        rotate_left
        · simp only [Act.put, sa, sz, ss, i64_w, i32_w]
          rfl
        refine pure_ (i := 24) (N := some 70) (v := ?_) (a' := ?_) (bb 33 33554431) rfl rfl (by kernel_rfl) (fun _ _ _ h => h) (Or.inl ⟨by rfl, ?_⟩) ?_ ?_
        rotate_left
        · intro w'
          go_simp
          with_reducible rfl
        rotate_left
        · simp only [Act.put, sa, sz, ss, i64_w, i32_w]
          rfl
        refine pure_ (i := 25) (N := some 71) (v := ?_) (a' := ?_) (bb 33 67108863) rfl rfl (by kernel_rfl) (fun _ _ _ h => h) (Or.inl ⟨by rfl, ?_⟩) ?_ ?_
        rotate_left
        · intro w'
          go_simp
          with_reducible rfl
        rotate_left
        · simp only [Act.put, sa, sz, ss, i64_w, i32_w]
          rfl
        refine pure_ (i := 26) (N := some 72) (v := ?_) (a' := ?_) (bb 33 134217727) rfl rfl (by kernel_rfl) (fun _ _ _ h => h) (Or.inl ⟨by rfl, ?_⟩) ?_ ?_
        rotate_left
        · intro w'
          go_simp
          with_reducible rfl
        rotate_left
        · simp only [Act.put, sa, sz, ss, i64_w, i32_w]
          rfl
        refine pure_ (i := 27) (N := some 73) (v := ?_) (a' := ?_) (bb 33 268435455) rfl rfl (by kernel_rfl) (fun _ _ _ h => h) (Or.inl ⟨by rfl, ?_⟩) ?_ ?_
        rotate_left
        · intro w'
          go_simp
          with_reducible rfl
        rotate_left
        · simp only [Act.put, sa, sz, ss, i64_w, i32_w]
          rfl
        refine pure_ (i := 28) (N := some 74) (v := ?_) (a' := ?_) (bb 33 536870911) rfl rfl (by kernel_rfl) (fun _ _ _ h => h) (Or.inl ⟨by rfl, ?_⟩) ?_ ?_
        rotate_left
        · intro w'
          go_simp
          with_reducible rfl
        rotate_left
        · simp only [Act.put, sa, sz, ss, i64_w, i32_w]
          rfl
        refine take_ (i := 29) (N := some 75) (v := ?_) (a' := ?_) (bb 33 1073741823) rfl rfl (by kernel_rfl) (fun _ _ _ h => h) (Or.inl ⟨by rfl, ?_⟩) hHeld ?_ ?_
        rotate_left
        · rintro w' ⟨s1_, s2_, s3_, s4_, s5_⟩
          go_simp
          with_reducible rfl
        rotate_left
        · simp only [Act.put, sa, sz, ss, i64_w, i32_w]
          rfl
        refine pure_ (i := 30) (N := some 76) (v := ?_) (a' := ?_) (bb 33 2147483647) rfl rfl (by kernel_rfl) (fun _ _ _ h => h) (Or.inl ⟨by rfl, ?_⟩) ?_ ?_
        rotate_left
        · intro w'
          go_simp
          with_reducible rfl
        rotate_left
        · simp only [Act.put, sa, sz, ss, i64_w, i32_w]
          rfl
        refine pure_ (i := 31) (N := some 77) (v := ?_) (a' := ?_) (bb 33 4294967295) rfl rfl (by kernel_rfl) (fun _ _ _ h => h) (Or.inl ⟨by rfl, ?_⟩) ?_ ?_
        rotate_left
        · intro w'
          go_simp
          with_reducible rfl
        rotate_left
        · simp only [Act.put, sa, sz, ss, i64_w, i32_w]
          rfl
        refine pure_ (i := 32) (N := some 78) (v := ?_) (a' := ?_) (bb 33 8589934591) rfl rfl (by kernel_rfl) (fun _ _ _ h => h) (Or.inl ⟨by rfl, ?_⟩) ?_ ?_
        rotate_left
        · intro w'
          go_simp
          with_reducible rfl
        rotate_left
        · simp only [Act.put, sa, sz, ss, i64_w, i32_w]
          rfl
        refine done_ (by kernel_rfl) ?_
        have HBE := Aside0.mk hHeld.2.2.2.2
        clear hHeld hS
        clear t1 t2 v1 v2 v3 v4 v5 v6 v7 v8 r1 p0
        go_upto_region 9 with (fail)
      all_goals
        have HB7 : Aside0 (Below w.heap.size w w7) := ⟨HB.out.trans (HBE.out.mono HB.out.size)⟩
        replace y1 : w7.drew.cell? ⟨g0, o0 + i * 3, none⟩ = some (.int .i64 x.1) := (HBE.out.cell (World.block_lt_of_cell? _ _ y1)).trans y1
        replace y2 : w7.drew.cell? ⟨g0, o0 + i * 3 + 1, none⟩ = some (.int .i64 x.2.kind) := (HBE.out.cell (World.block_lt_of_cell? _ _ y2)).trans y2
        replace y3 : w7.drew.cell? ⟨g0, o0 + i * 3 + 2, none⟩ = some (.slice Ax x.2.links.length cx) := (HBE.out.cell (World.block_lt_of_cell? _ _ y3)).trans y3
        have HG7 : Aside0 (RefAt w7.drew w.heap.size gg next v ((l.take i).map (ldO l))) := ⟨(HG.out.below HBE.out).below (below_drew (Below.refl _ _))⟩
        have hg1 : w7.drew.cell? ⟨gg, 1, none⟩ = some v := (blk_cell HG7.out.blk 1).trans rfl
        have hS : w7.drew.cell? ⟨gg, 1, none⟩ = some v ∧ w7.drew.cell? ⟨g0, o0 + i * 3, none⟩ = some (.int .i64 x.1) ∧ w7.drew.cell? ⟨g0, o0 + i * 3 + 1, none⟩ = some (.int .i64 x.2.kind) ∧ w7.drew.cell? ⟨g0, o0 + i * 3 + 2, none⟩ = some (.slice Ax x.2.links.length cx) := ⟨hg1, y1, y2, y3⟩
        refine start_ (n := 28) (S := fun W' => W'.cell? ⟨gg, 1, none⟩ = some v ∧ W'.cell? ⟨g0, o0 + i * 3, none⟩ = some (.int .i64 x.1) ∧ W'.cell? ⟨g0, o0 + i * 3 + 1, none⟩ = some (.int .i64 x.2.kind) ∧ W'.cell? ⟨g0, o0 + i * 3 + 2, none⟩ = some (.slice Ax x.2.links.length cx)) (ds := [24, 27]) #[false, false, false, false, false, false, false, false, false, false, false, false, false, false, false, false, false, false, false, false, false, false, false, false, false, false, false, false] (by kernel_rfl) rfl rfl hS (fun hHeld => ?_)
        refine pure_ (i := 0) (N := some 79) (v := ?_) (a' := ?_) (bb 28 1) rfl rfl (by kernel_rfl) (fun _ _ _ h => h) (Or.inl ⟨by rfl, ?_⟩) ?_ ?_
        rotate_left
        · intro w'
          go_simp
          with_reducible rfl
        rotate_left
        · simp only [Act.put, sa, sz, ss, i64_w, i32_w]
          rfl
        refine pure_ (i := 1) (N := some 80) (v := ?_) (a' := ?_) (bb 28 3) rfl rfl (by kernel_rfl) (fun _ _ _ h => h) (Or.inl ⟨by rfl, ?_⟩) ?_ ?_
        rotate_left
        · intro w'
          go_simp
          with_reducible rfl
        rotate_left
        · simp only [Act.put, sa, sz, ss, i64_w, i32_w]
          rfl
        refine pure_ (i := 2) (N := some 81) (v := ?_) (a' := ?_) (bb 28 7) rfl rfl (by kernel_rfl) (fun _ _ _ h => h) (Or.inl ⟨by rfl, ?_⟩) ?_ ?_
        rotate_left
        · intro w'
          go_simp
          with_reducible rfl
        rotate_left
        · simp only [Act.put, sa, sz, ss, i64_w, i32_w]
          rfl
        refine pure_ (i := 3) (N := some 82) (v := ?_) (a' := ?_) (bb 28 15) rfl rfl (by kernel_rfl) (fun _ _ _ h => h) (Or.inl ⟨by rfl, ?_⟩) ?_ ?_
        rotate_left
        · intro w'
          go_simp
          with_reducible rfl
        rotate_left
        · simp only [Act.put, sa, sz, ss, i64_w, i32_w]
          rfl
        refine take_ (i := 4) (N := some 83) (v := ?_) (a' := ?_) (bb 28 31) rfl rfl (by kernel_rfl) (fun _ _ _ h => h) (Or.inl ⟨by rfl, ?_⟩) hHeld ?_ ?_
        rotate_left
        · rintro w' ⟨s1_, s2_, s3_, s4_⟩
          go_simp
          with_reducible rfl
        rotate_left
        · simp only [Act.put, sa, sz, ss, i64_w, i32_w]
          rfl
        refine pure_ (i := 5) (N := some 84) (v := ?_) (a' := ?_) (bb 28 63) rfl rfl (by kernel_rfl) (fun _ _ _ h => h) (Or.inl ⟨by rfl, ?_⟩) ?_ ?_
        rotate_left
        · intro w'
          go_simp
          with_reducible rfl
        rotate_left
        · simp only [Act.put, sa, sz, ss, i64_w, i32_w]
          rfl
        refine pure_ (i := 6) (N := some 85) (v := ?_) (a' := ?_) (bb 28 127) rfl rfl (by kernel_rfl) (fun _ _ _ h => h) (Or.inl ⟨by rfl, ?_⟩) ?_ ?_
        rotate_left
        · intro w'
          go_simp
          with_reducible rfl
        rotate_left
        · simp only [Act.put, sa, sz, ss, i64_w, i32_w]
          rfl
        refine pure_ (i := 7) (N := some 86) (v := ?_) (a' := ?_) (bb 28 255) rfl rfl (by kernel_rfl) (fun _ _ _ h => h) (Or.inl ⟨by rfl, ?_⟩) ?_ ?_
        rotate_left
        · intro w'
          go_simp
          with_reducible rfl
        rotate_left
        · simp only [Act.put, sa, sz, ss, i64_w, i32_w]
          rfl
        refine pure_ (i := 8) (N := some 87) (v := ?_) (a' := ?_) (bb 28 511) rfl rfl (by kernel_rfl) (fun _ _ _ h => h) (Or.inl ⟨by rfl, ?_⟩) ?_ ?_
        rotate_left
        · intro w'
          go_simp
          with_reducible rfl
        rotate_left
        · simp only [Act.put, sa, sz, ss, i64_w, i32_w]
          rfl
        refine take_ (i := 9) (N := some 88) (v := ?_) (a' := ?_) (bb 28 1023) rfl rfl (by kernel_rfl) (fun _ _ _ h => h) (Or.inl ⟨by rfl, ?_⟩) hHeld ?_ ?_
        rotate_left
        · rintro w' ⟨s1_, s2_, s3_, s4_⟩
          go_simp
          with_reducible rfl
        rotate_left
        · simp only [Act.put, sa, sz, ss, i64_w, i32_w]
          rfl
        refine pure_ (i := 10) (N := some 89) (v := ?_) (a' := ?_) (bb 28 2047) rfl rfl (by kernel_rfl) (fun _ _ _ h => h) (Or.inl ⟨by rfl, ?_⟩) ?_ ?_
        rotate_left
        · intro w'
          go_simp
          with_reducible rfl
        rotate_left
        · simp only [Act.put, sa, sz, ss, i64_w, i32_w]
          rfl
        refine pure_ (i := 11) (N := some 90) (v := ?_) (a' := ?_) (bb 28 4095) rfl rfl (by kernel_rfl) (fun _ _ _ h => h) (Or.inl ⟨by rfl, ?_⟩) ?_ ?_
        rotate_left
        · intro w'
          go_simp
          with_reducible rfl
        rotate_left
        · simp only [Act.put, sa, sz, ss, i64_w, i32_w]
          rfl
        refine pure_ (i := 12) (N := some 91) (v := ?_) (a' := ?_) (bb 28 8191) rfl rfl (by kernel_rfl) (fun _ _ _ h => h) (Or.inl ⟨by rfl, ?_⟩) ?_ ?_
        rotate_left
        · intro w'
          go_simp
          with_reducible rfl
        rotate_left
        · simp only [Act.put, sa, sz, ss, i64_w, i32_w]
          rfl
        refine pure_ (i := 13) (N := some 92) (v := ?_) (a' := ?_) (bb 28 16383) rfl rfl (by kernel_rfl) (fun _ _ _ h => h) (Or.inl ⟨by rfl, ?_⟩) ?_ ?_
        rotate_left
        · intro w'
          go_simp
          with_reducible rfl
        rotate_left
        · simp only [Act.put, sa, sz, ss, i64_w, i32_w]
          rfl
        refine take_ (i := 14) (N := some 93) (v := ?_) (a' := ?_) (bb 28 32767) rfl rfl (by kernel_rfl) (fun _ _ _ h => h) (Or.inl ⟨by rfl, ?_⟩) hHeld ?_ ?_
        rotate_left
        · rintro w' ⟨s1_, s2_, s3_, s4_⟩
          go_simp
          with_reducible rfl
        rotate_left
        · simp only [Act.put, sa, sz, ss, i64_w, i32_w]
          rfl
        refine pure_ (i := 16) (N := some 95) (v := ?_) (a' := ?_) (bb 28 98303) rfl rfl (by kernel_rfl) (fun _ _ _ h => h) (Or.inl ⟨by rfl, ?_⟩) ?_ ?_
        rotate_left
        · intro w'
          go_simp
          with_reducible rfl
        rotate_left
        · simp only [Act.put, sa, sz, ss, i64_w, i32_w]
          rfl
        refine pure_ (i := 17) (N := some 96) (v := ?_) (a' := ?_) (bb 28 229375) rfl rfl (by kernel_rfl) (fun _ _ _ h => h) (Or.inl ⟨by rfl, ?_⟩) ?_ ?_
        rotate_left
        · intro w'
          go_simp
          with_reducible rfl
        rotate_left
        · simp only [Act.put, sa, sz, ss, i64_w, i32_w]
          rfl
        refine pure_ (i := 18) (N := some 97) (v := ?_) (a' := ?_) (bb 28 491519) rfl rfl (by kernel_rfl) (fun _ _ _ h => h) (Or.inl ⟨by rfl, ?_⟩) ?_ ?_
        rotate_left
        · intro w'
          go_simp
          with_reducible rfl
        rotate_left
        · simp only [Act.put, sa, sz, ss, i64_w, i32_w]
          rfl
        refine pure_ (i := 19) (N := some 98) (v := ?_) (a' := ?_) (bb 28 1015807) rfl rfl (by kernel_rfl) (fun _ _ _ h => h) (Or.inl ⟨by rfl, ?_⟩) ?_ ?_
        rotate_left
        · intro w'
          go_simp
          with_reducible rfl
        rotate_left
        · simp only [Act.put, sa, sz, ss, i64_w, i32_w]
          rfl
        refine take_ (i := 20) (N := some 99) (v := ?_) (a' := ?_) (bb 28 2064383) rfl rfl (by kernel_rfl) (fun _ _ _ h => h) (Or.inl ⟨by rfl, ?_⟩) hHeld ?_ ?_
        rotate_left
        · rintro w' ⟨s1_, s2_, s3_, s4_⟩
          go_simp
          with_reducible rfl
        rotate_left
        · simp only [Act.put, sa, sz, ss, i64_w, i32_w]
          rfl
        refine one_ (i := 15) (N := some 94) (bb 28 2097151) rfl rfl (by kernel_rfl) (by decide) (fun K hK => ?_)
        skip
        refine value_ (v := .slice (some ⟨w7.drew.heap.size, 0, none⟩) 0 0) (w1 := w7.drew.alloc (.cells #[] 42 (0, 0))) (by rfl) rfl (by go_simp) ?_
        refine hK.out _ _ (held4 hHeld (below_alloc (Below.refl _ _) _)) (fun hHeld => ?_)
        clear hK K
        refine norm_ (a' := ?_) ?_ ?_
        rotate_left
        · show Act.put _ (some 94) _ = _
          simp only [Act.put, sa, sz, ss, i64_w, i32_w]
          rfl
        obtain ⟨A5, c5, w5, hr5, ho5, hb5⟩ := links_copied w7.drew (A := Ax) (n := x.2.links.length) (c := cx) (HLR.out.below (HBE.out.trans ((below_drew (Below.refl _ _)).mono HBE.out.size))) rfl HXB.out
        have HR5 := Aside0.mk hr5
        have HO5 := Aside0.mk ho5
        have HB5 := Aside0.mk hb5
        clear hr5 ho5
        refine one_ (i := 21) (N := some 100) (bb 28 4194303) rfl rfl (by kernel_rfl) (by decide) (fun K hK => ?_)
        refine step_append rfl (.tmp 94) (.tmp 99) 38 rfl rfl rfl HR5.out ?_
        refine hK.out _ _ (held4 hS hb5) (fun hHeld => ?_)
        clear hK K hb5
        refine norm_ (a' := ?_) ?_ ?_
        rotate_left
        · show Act.put _ (some 100) _ = _
          simp only [Act.put, sa, sz, ss, i64_w, i32_w]
          rfl
        refine pure_ (i := 22) (N := some 101) (v := ?_) (a' := ?_) (bb 28 8388607) rfl rfl (by kernel_rfl) (fun _ _ _ h => h) (Or.inl ⟨by rfl, ?_⟩) ?_ ?_
        rotate_left
        · intro w'
          go_simp
          with_reducible rfl
        rotate_left
        · simp only [Act.put, sa, sz, ss, i64_w, i32_w]
          rfl
        refine one_ (i := 23) (N := some 102) (bb 28 16777215) rfl rfl (by kernel_rfl) (by decide) (fun K hK => ?_)
        skip
        refine value_ (v := .slice (some ⟨w5.heap.size, 0, none⟩) 1 1) (w1 := w5.alloc (.cells #[.int .i64 x.1, .int .i64 x.2.kind, .slice A5 x.2.links.length c5, .int .i64 0] 106 (0, 0))) (by rfl) rfl (by go_simp) ?_
        refine hK.out _ _ (held4 hHeld (below_alloc (Below.refl _ _) _)) (fun hHeld => ?_)
        clear hK K
        refine norm_ (a' := ?_) ?_ ?_
        rotate_left
        · show Act.put _ (some 102) _ = _
          simp only [Act.put, sa, sz, ss, i64_w, i32_w]
          rfl
        have hbase : w.heap.size ≤ w7.drew.heap.size := HB7.out.size
        have htl : ((l.take i).map (ldO l)).length = i := by rw [List.length_map, List.length_take]; have := HLT.out; omega
        obtain ⟨A7, c7, w8, hr7, hpush, hg8⟩ := obj_pushed (x := ldO l x) HG7.out.objs HB5.out hbase (HO5.out.mono hbase) (by rw [htl]; have := HLT.out; have := HSZ.out; unfold bound; omega)
        have hin : RefAt (w5.alloc (.cells #[.int .i64 (ldO l x).1, .int .i64 (ldO l x).2.kind, .slice A5 (ldO l x).2.links.length c5, .int .i64 (ldO l x).2.held] 106 (0, 0))) w.heap.size gg next v ((l.take i).map (ldO l)) := (HG7.out.below HB5.out).below (below_alloc (Below.refl _ _) _)
        have hbb : Below w.heap.size w w8 := ((HB7.out.trans ((below_drew (Below.refl _ _)).mono HB7.out.size)).trans ((HB5.out.trans ((below_alloc (Below.refl _ _) _).mono HB5.out.size)).mono hbase)).grown hg8 (by have h1 := HB5.out.size; have h2 := (below_alloc (Below.refl w5.heap.size w5) (.cells #[.int .i64 (ldO l x).1, .int .i64 (ldO l x).2.kind, .slice A5 (ldO l x).2.links.length c5, .int .i64 (ldO l x).2.held] 106 (0, 0))).size; omega) (fun k hk => (hin.objs.base hk).1)
        obtain ⟨hput, hblk⟩ := hin.put hg8 hpush
        rw [show (l.take i).map (ldO l) ++ [ldO l x] = (l.take (i + 1)).map (ldO l) by rw [HTK.out, List.map_append]; rfl] at hput
        rw [htl] at hr7 hput
        have HR7 := Aside0.mk hr7
        have HPUT := Aside0.mk hput
        have HBB := Aside0.mk hbb
        have f8 : w8.frozen? ⟨gg, 1, none⟩ = false := blk_frozen hblk 1
        have f9 : w8.cell? ⟨gg, 1, none⟩ = some v := (blk_cell hblk 1).trans rfl
        have hr8 : (Instr.storeAt 102 (.pointer (some ⟨gg, 1, none⟩)) (.slice A7 (i + 1) c7)).run Tryz.prog w8 = .ok () (w8.setCell ⟨gg, 1, none⟩ (.slice A7 (i + 1) c7)) := by go_simp
        have HR8 := Aside0.mk hr8
        clear hr7 hput hbb hpush hg8 hin hbase htl hblk f8 f9 hr8
        refine last_ (i := 24) (N := some 103) (bb 28 33554431) rfl rfl (by kernel_rfl) (by decide) (fun K hK => ?_)
        refine step_append rfl (.tmp 83) (.tmp 102) 102 rfl rfl rfl HR7.out ?_
        refine hK.out _ _ ?_
        clear hK K
        refine norm_ (a' := ?_) ?_ ?_
        rotate_left
        · show Act.put _ (some 103) _ = _
          simp only [Act.put, sa, sz, ss, i64_w, i32_w]
          rfl
        refine pure_ (i := 25) (N := some 104) (v := ?_) (a' := ?_) (bb 28 67108863) rfl rfl (by kernel_rfl) (fun _ _ _ h => h) (Or.inl ⟨by rfl, ?_⟩) ?_ ?_
        rotate_left
        · intro w'
          go_simp
          with_reducible rfl
        rotate_left
        · simp only [Act.put, sa, sz, ss, i64_w, i32_w]
          rfl
        refine pure_ (i := 26) (N := some 105) (v := ?_) (a' := ?_) (bb 28 134217727) rfl rfl (by kernel_rfl) (fun _ _ _ h => h) (Or.inl ⟨by rfl, ?_⟩) ?_ ?_
        rotate_left
        · intro w'
          go_simp
          with_reducible rfl
        rotate_left
        · simp only [Act.put, sa, sz, ss, i64_w, i32_w]
          rfl
        clear hS hHeld hg1 y1 y2 y3
        refine last_ (i := 27) (N := none) (bb 28 268435455) rfl rfl (by kernel_rfl) (by decide) (fun K hK => ?_)
        refine step_store rfl (.tmp 105) (.tmp 103) 102 rfl rfl rfl HR8.out ?_
        refine hK.out _ _ ?_
        clear hK K
        refine done_ (by kernel_rfl) ?_
        have HB9 : Aside0 (Below w.heap.size w (w8.setCell ⟨gg, 1, none⟩ (.slice A7 (i + 1) c7))) := ⟨HBB.out.setCell (by rw [HGG.out]; exact Nat.le_refl _) _⟩
        have HMY2 : Aside0 (∀ z ∈ l.take (i + 1), MayP z.2.kind z.2.links) := ⟨by rw [HTK.out]; exact fun z hz => (List.mem_append.1 hz).elim (HMY.out z) (fun h => by rw [List.mem_singleton.1 h]; exact HMX.out)⟩
        have HBL2 : Aside0 (∀ z ∈ l.take (i + 1), z.1 < next) := ⟨by rw [HTK.out]; exact fun z hz => (List.mem_append.1 hz).elim (HBL.out z) (fun h => by rw [List.mem_singleton.1 h]; exact HNB.out)⟩
        go_wp2
        clear q4
        go_roundg (gk - 1)
        case measure => have := HI.out; have := HLT.out; omega
        case rel => exact ⟨i + 1, iv + 1, _, by first | rfl | rw [w1_], ⟨by have := HIV.out; omega⟩, ⟨by have := HLT.out; omega, by have := HI.out; omega⟩, HPUT, HB9, HMY2, HAS2, HBL2⟩
    · have q1 : decide (iv < (l.length : Int)) = false := decide_eq_false (by have := HIV.out; omega)
      have q2 : (iv < (l.length : Int)) = False := eq_false (by have := HIV.out; omega)
      have hi : l.length ≤ i := by omega
      have HIL := Aside0.mk hi
      have hg := HG.out
      have hmy := HMY.out
      have has_ := HAS.out
      have hbl := HBL.out
      rw [List.take_of_length_le hi] at hg hmy has_ hbl
      have HGF : Aside0 (RefAt wr w.heap.size gg next v (l.map (ldO l))) := ⟨hg⟩
      have HMYF := Aside0.mk hmy
      have HASF := Aside0.mk has_
      have HBLF := Aside0.mk hbl
      obtain ⟨A9, c9, rfl, hrr⟩ := hg.R
      have HRR := Aside0.mk hrr
      have HML : Aside0 ((l.map (ldO l)).length = l.length) := ⟨List.length_map _⟩
      have hsl : sumO lenO (l.map (ldO l)) = sumO lenO l := sum_ld List.length l
      have HSL := Aside0.mk hsl
      have HASM : Aside0 (Asc (l.map (ldO l))) := ⟨ld_asc (next := next) has_⟩
      have HPOS : Aside0 (∀ x ∈ l, 0 < x.1) := ⟨asc_pos has_ (fun x hx => (HHD.out x hx).1)⟩
      have HPOSM : Aside0 (∀ x ∈ l.map (ldO l), 0 < x.1) := ⟨fun x hx => by obtain ⟨z, hz, rfl⟩ := List.mem_map.1 hx; exact HPOS.out z hz⟩
      have HHAS : Aside0 (has l 1) := ⟨⟨x0.2, by rw [← (HHD.out x0 HX0.out).1]; exact List.mem_of_getElem? HX0.out⟩⟩
      have HHASM : Aside0 (has (l.map (ldO l)) 1) := ⟨(ld_has (next := next)).2 HHAS.out⟩
      have HLBM : Aside0 (∀ x ∈ l.map (ldO l), x.2.links.length ≤ bound) := ⟨fun x hx => by obtain ⟨z, hz, rfl⟩ := List.mem_map.1 hx; have h9 : z.2.links.length ≤ sumO lenO l := le_sumO lenO hz; have := HLL.out; show z.2.links.length ≤ bound; unfold bound; omega⟩
      clear hg hmy has_ hbl hrr hsl hlt hi HG HMY HAS HBL
      by_cases hmany : 256 < sumO lenO l
      · have m1 : decide (256 < ((sumO lenO l : Nat) : Int)) = true := decide_eq_true (by omega)
        have HNO : Aside0 (¬ LoadP next l) := ⟨fun h => by have := h.links; omega⟩
        clear hmany
        go_wp2_with (go_at_call 54; refine (refLinks_calls wr gg next A9 c9 _ HRR.out (by have := HML.out; have := HSZ.out; unfold bound; omega) (by have := HSL.out; have := HLL.out; omega)).mono ?_; rintro e_ w2 ⟨rfl, rfl⟩; rw [HSL.out])
        go_ret2
        exact rld_no HNO.out HB.out
      have m1 : decide (256 < ((sumO lenO l : Nat) : Int)) = false := decide_eq_false (by omega)
      have HMANY : Aside0 (sumO lenO l ≤ 256) := ⟨by omega⟩
      clear hmany q1 q2
      have q1 : decide (iv < (l.length : Int)) = false := decide_eq_false (by have := HIV.out; have := HIL.out; omega)
      go_upto_region 10 with (fail)
      clear q1
      go_upto_region 12 with (go_at_call 54; refine (refLinks_calls wr gg next A9 c9 _ HRR.out (by have := HML.out; have := HSZ.out; unfold bound; omega) (by have := HSL.out; have := HLL.out; omega)).mono ?_; rintro e_ w2 ⟨rfl, rfl⟩; rw [HSL.out])
      clear m1
      go_upto_region 13 with (go_at_call 55; refine (refReached_calls _ gg next A9 c9 _ HRR.out HASM.out HPOSM.out HHASM.out (by have := HML.out; have := HSZ.out; omega) HLBM.out).mono ?_; rintro e_ w3 ⟨wb, bl, rfl, hwb, hbl, hbll, hrch, hb3⟩; rw [HML.out]; have HBLS := Aside0.mk hbl; have HBLL := Aside0.mk hbll; have HRCH := Aside0.mk hrch; have HB3 := Aside0.mk hb3; clear hwb hbl hbll hrch hb3)
      have HBW3 : Aside0 (Below w.heap.size w w3) := ⟨HB.out.trans (HB3.out.mono HB.out.size)⟩
      have HNW := Aside0.mk (HN.out.below HBW3.out)
      have HGW : Aside0 (RefAt w3 w.heap.size gg next (.slice A9 (l.map (ldO l)).length c9) (l.map (ldO l))) := ⟨HGF.out.below HB3.out⟩
      have HRW := Aside0.mk (HRR.out.below HB3.out)
      go_upto_region 14 with (fail)
      go_loopg [9] l.length (fun kq v9 W => ∃ (i : Nat) (iv : Int), v9 = .int .i64 iv ∧ Aside0 (iv = (i : Int)) ∧ Aside0 (i ≤ l.length ∧ l.length - i ≤ kq) ∧ Aside0 (∀ z ∈ l.take i, (∀ k ∈ z.2.links, 0 < k.2.1 → has l k.2.1) ∧ Rch (grL l) z.1 ∧ (z.1 = 1 ∨ z.2.kind ≠ 1 ∨ sumO (cntO z.1) l = 1)) ∧ W = w3)
      case atStart => exact ⟨0, 0, rfl, ⟨rfl⟩, ⟨by omega, by omega⟩, ⟨by simp⟩, rfl⟩
      case round =>
        obtain ⟨i, iv, rfl, HIV, HI, HOK, hw⟩ := hrel
        obtain rfl := hw.symm
        by_cases hlt : i < l.length
        · obtain ⟨x, hx⟩ : ∃ x, l[i]? = some x := ⟨_, List.getElem?_eq_getElem hlt⟩
          have HX := Aside0.mk hx
          have HXM := Aside0.mk (List.mem_of_getElem? hx)
          have HTK : Aside0 (l.take (i + 1) = l.take i ++ [x]) := ⟨by obtain ⟨h1, e1⟩ := List.getElem?_eq_some_iff.1 hx; rw [List.take_succ_eq_append_getElem h1, e1]⟩
          obtain ⟨g0', o0', Ax, cx, e0, -, y1, y2, y3, hcx, hlr⟩ := HNW.out.at hx
          obtain ⟨rfl, rfl⟩ : g0 = g0' ∧ o0 = o0' := by simpa using e0
          have HLR := Aside0.mk hlr
          have HLT := Aside0.mk hlt
          have q1 : decide (iv < (l.length : Int)) = true := decide_eq_true (by have := HIV.out; omega)
          have q2 : (iv < (l.length : Int)) = True := eq_true (by have := HIV.out; omega)
          have q3 : (0 : Int) ≤ iv := by have := HIV.out; omega
          have q4 : iv.toNat = i := by have := HIV.out; omega
          have w1_ : wrap64 (iv + 1) = iv + 1 := wrap_ok9 _ (by omega) (by have := HIV.out; have := HSZ.out; have := HLT.out; omega)
          have HXB : Aside0 (x.2.links.length ≤ bound) := ⟨by have h9 : x.2.links.length ≤ sumO lenO l := le_sumO lenO HXM.out; have := HLL.out; unfold bound; omega⟩
          obtain ⟨gk0, HGK⟩ : ∃ gk0, Aside0 (gk0 = gk) := ⟨_, ⟨rfl⟩⟩
          clear hx hlt hlr hcx e0
          go_upto_region 17 with (fail)
          clear q1
          go_loopg [10] x.2.links.length (fun kq v10 W => ∃ (m : Nat) (mv : Int), v10 = .int .i64 mv ∧ Aside0 (mv = (m : Int)) ∧ Aside0 (m ≤ x.2.links.length ∧ x.2.links.length - m ≤ kq) ∧ Aside0 (∀ k ∈ x.2.links.take m, 0 < k.2.1 → has l k.2.1) ∧ W = w3)
          case atStart => exact ⟨0, 0, rfl, ⟨rfl⟩, ⟨by omega, by omega⟩, ⟨by simp⟩, rfl⟩
          case round =>
            obtain ⟨m, mv, rfl, HMV, HM, HOKM, hw⟩ := hrel
            obtain rfl := hw.symm
            by_cases hmt : m < x.2.links.length
            · obtain ⟨k, hk⟩ : ∃ k, x.2.links[m]? = some k := ⟨_, List.getElem?_eq_getElem hmt⟩
              have HK := Aside0.mk hk
              have HTM : Aside0 (x.2.links.take (m + 1) = x.2.links.take m ++ [k]) := ⟨by obtain ⟨h1, e1⟩ := List.getElem?_eq_some_iff.1 hk; rw [List.take_succ_eq_append_getElem h1, e1]⟩
              obtain ⟨g5, o5, rfl, -, -, k1, -⟩ := HLR.out.at hk
              have p1 : decide (mv < (x.2.links.length : Int)) = true := decide_eq_true (by have := HMV.out; omega)
              have p2 : (mv < (x.2.links.length : Int)) = True := eq_true (by have := HMV.out; omega)
              have p3 : (0 : Int) ≤ mv := by have := HMV.out; omega
              have p4 : mv.toNat = m := by have := HMV.out; omega
              have w2_ : wrap64 (mv + 1) = mv + 1 := wrap_ok9 _ (by omega) (by have := HMV.out; have := HXB.out; unfold bound at this; omega)
              have HMT := Aside0.mk hmt
              clear hk hmt
              by_cases hpos : 0 < k.2.1
              rotate_left
              · have u1_ : decide (0 < k.2.1) = false := decide_eq_false hpos
                have HNP : Aside0 (¬ 0 < k.2.1) := ⟨hpos⟩
                clear hpos
                go_wp2
                clear p4
                go_roundg (gk - 1)
                case measure => have := HM.out; have := HMT.out; omega
                case rel => exact ⟨m + 1, mv + 1, by first | rfl | rw [w2_], ⟨by have := HMV.out; omega⟩, ⟨by have := HMT.out; omega, by have := HM.out; omega⟩, ⟨by rw [HTM.out]; exact fun z hz => (List.mem_append.1 hz).elim (HOKM.out z) (fun h => by rw [List.mem_singleton.1 h]; exact fun h0 => absurd h0 (by have := HNP.out; omega))⟩, rfl⟩
              have u1_ : decide (0 < k.2.1) = true := decide_eq_true hpos
              have HPO := Aside0.mk hpos
              clear hpos
              by_cases hth : has l k.2.1
              · have HTH := Aside0.mk hth
                clear hth
                go_wp2_with (go_at_call 56; refine (refAt_calls _ gg next A9 c9 _ k.2.1 HRW.out (by have := HML.out; have := HSZ.out; unfold bound; omega)).mono ?_; rintro e_ w4 ⟨r, hra, rfl, rfl⟩; have r1_ : decide (r < 0) = false := (decide_eq_false (fun h => (atP_has hra).1 h ((ld_has (next := next)).2 HTH.out))); clear hra)
                clear p4
                go_roundg (gk - 1)
                case measure => have := HM.out; have := HMT.out; omega
                case rel => exact ⟨m + 1, mv + 1, by first | rfl | rw [w2_], ⟨by have := HMV.out; omega⟩, ⟨by have := HMT.out; omega, by have := HM.out; omega⟩, ⟨by rw [HTM.out]; exact fun z hz => (List.mem_append.1 hz).elim (HOKM.out z) (fun h => by rw [List.mem_singleton.1 h]; exact fun _ => HTH.out)⟩, rfl⟩
              · have HTH := Aside0.mk hth
                have HNO : Aside0 (¬ LoadP next l) := ⟨fun h => hth (h.closed x HXM.out k (List.mem_of_getElem? HK.out) HPO.out)⟩
                clear hth
                go_wp2_with (go_at_call 56; refine (refAt_calls _ gg next A9 c9 _ k.2.1 HRW.out (by have := HML.out; have := HSZ.out; unfold bound; omega)).mono ?_; rintro e_ w4 ⟨r, hra, rfl, rfl⟩; have r1_ : decide (r < 0) = true := (decide_eq_true ((atP_has hra).2 (fun h => HTH.out ((ld_has (next := next)).1 h)))); clear hra)
                go_ret2
                exact rld_no HNO.out HBW3.out
            · have p1 : decide (mv < (x.2.links.length : Int)) = false := decide_eq_false (by have := HMV.out; omega)
              have HMT := Aside0.mk hmt
              have HOKX : Aside0 (∀ k ∈ x.2.links, 0 < k.2.1 → has l k.2.1) := ⟨by have := HOKM.out; rw [List.take_of_length_le (by omega)] at this; exact this⟩
              have hxm : (l.map (ldO l))[i]? = some (ldO l x) := by rw [List.getElem?_map, HX.out]; rfl
              obtain ⟨bi, hbi⟩ : ∃ bi, bl[i]? = some bi := ⟨_, List.getElem?_eq_getElem (by have := HBLL.out; have := HML.out; have := HLT.out; omega)⟩
              have d1 := HBLS.out.cell hbi
              have hrc : bl[i]? = some true ↔ Rch (grL l) x.1 := (HRCH.out i _ hxm).trans (rch_grL (next := next))
              rw [hbi] at hrc
              have HRC := Aside0.mk hrc
              clear hmt hbi hrc hxm
              cases bi
              · have HNO : Aside0 (¬ LoadP next l) := ⟨fun h => by have := HRC.out.2 (h.rch x HXM.out); cases this⟩
                go_wp2
                go_ret2
                exact rld_no HNO.out HBW3.out
              have HRX : Aside0 (Rch (grL l) x.1) := ⟨HRC.out.1 rfl⟩
              rcases Nat.eq_zero_or_pos i with hi0 | hi0
              · have t1 : decide (0 < iv) = false := decide_eq_false (by have := HIV.out; omega)
                have HX1 : Aside0 (x.1 = 1) := ⟨by have h2 := HX.out; rw [hi0] at h2; exact (HHD.out x h2).1⟩
                clear hi0
                go_wp2
                clear q4
                go_roundg (gk0 - 1)
                case measure => have := HI.out; have := HLT.out; have := HGK.out; omega
                case rel => exact ⟨i + 1, iv + 1, by first | rfl | rw [w1_], ⟨by have := HIV.out; omega⟩, ⟨by have := HLT.out; omega, by have := HI.out; have := HGK.out; omega⟩, ⟨by rw [HTK.out]; exact fun z hz => (List.mem_append.1 hz).elim (HOK.out z) (fun h => by rw [List.mem_singleton.1 h]; exact ⟨HOKX.out, HRX.out, .inl HX1.out⟩)⟩, rfl⟩
              have t1 : decide (0 < iv) = true := decide_eq_true (by have := HIV.out; omega)
              have HI0 := Aside0.mk hi0
              clear hi0
              by_cases hk1 : x.2.kind = 1
              rotate_left
              · have t2 : (x.2.kind == 1) = false := by simpa using hk1
                have HK1 := Aside0.mk hk1
                clear hk1
                go_wp2
                clear q4
                go_roundg (gk0 - 1)
                case measure => have := HI.out; have := HLT.out; have := HGK.out; omega
                case rel => exact ⟨i + 1, iv + 1, by first | rfl | rw [w1_], ⟨by have := HIV.out; omega⟩, ⟨by have := HLT.out; omega, by have := HI.out; have := HGK.out; omega⟩, ⟨by rw [HTK.out]; exact fun z hz => (List.mem_append.1 hz).elim (HOK.out z) (fun h => by rw [List.mem_singleton.1 h]; exact ⟨HOKX.out, HRX.out, .inr (.inl HK1.out)⟩)⟩, rfl⟩
              rw [hk1] at y2
              have HK1 := Aside0.mk hk1
              clear hk1
              have HCN : Aside0 (sumO (cntO x.1) (l.map (ldO l)) = sumO (cntO x.1) l) := ⟨sum_ld (cntL x.1) l⟩
              by_cases hone : sumO (cntO x.1) l = 1
              · have t3 : ((((sumO (cntO x.1) l : Nat) : Int)) != 1) = false := by rw [hone]; rfl
                have HON := Aside0.mk hone
                clear hone
                go_wp2_with (go_at_call 57; refine (refLeads_calls _ gg next A9 c9 _ x.1 HRW.out (by have := HML.out; have := HSZ.out; unfold bound; omega) (by have := HSL.out; have := HLL.out; omega)).mono ?_; rintro e_ w4 ⟨rfl, rfl⟩; rw [HCN.out])
                clear q4
                go_roundg (gk0 - 1)
                case measure => have := HI.out; have := HLT.out; have := HGK.out; omega
                case rel => exact ⟨i + 1, iv + 1, by first | rfl | rw [w1_], ⟨by have := HIV.out; omega⟩, ⟨by have := HLT.out; omega, by have := HI.out; have := HGK.out; omega⟩, ⟨by rw [HTK.out]; exact fun z hz => (List.mem_append.1 hz).elim (HOK.out z) (fun h => by rw [List.mem_singleton.1 h]; exact ⟨HOKX.out, HRX.out, .inr (.inr HON.out)⟩)⟩, rfl⟩
              · have t3 : ((((sumO (cntO x.1) l : Nat) : Int)) != 1) = true := by simpa using (by omega : ¬ ((sumO (cntO x.1) l : Nat) : Int) = 1)
                have HNO : Aside0 (¬ LoadP next l) := ⟨fun h => by
                  rcases h.ones x HXM.out with h1 | h1 | h1
                  · obtain ⟨ha, ea⟩ := List.getElem?_eq_some_iff.1 HX.out
                    have h2 := asc_get h.asc HI0.out ha
                    have h3 := (h.head _ (List.getElem?_eq_getElem (by omega : 0 < l.length))).1
                    rw [ea] at h2
                    omega
                  · exact h1 HK1.out
                  · exact hone h1⟩
                clear hone
                go_wp2_with (go_at_call 57; refine (refLeads_calls _ gg next A9 c9 _ x.1 HRW.out (by have := HML.out; have := HSZ.out; unfold bound; omega) (by have := HSL.out; have := HLL.out; omega)).mono ?_; rintro e_ w4 ⟨rfl, rfl⟩; rw [HCN.out])
                go_ret2
                exact rld_no HNO.out HBW3.out
        · have q1 : decide (iv < (l.length : Int)) = false := decide_eq_false (by have := HIV.out; omega)
          have HLT := Aside0.mk hlt
          have HALL : Aside0 (∀ z ∈ l, (∀ k ∈ z.2.links, 0 < k.2.1 → has l k.2.1) ∧ Rch (grL l) z.1 ∧ (z.1 = 1 ∨ z.2.kind ≠ 1 ∨ sumO (cntO z.1) l = 1)) := ⟨by have := HOK.out; rw [List.take_of_length_le (by omega)] at this; exact this⟩
          clear hlt
          go_wp2
          go_ret2
          refine .inl ⟨⟨HLEN0.out, HSZ.out, HHD.out, HNX.out, HMYF.out, HASF.out, HBLF.out, fun z hz k hk h0 => (HALL.out z hz).1 k hk h0, HMANY.out, fun z hz => (HALL.out z hz).2.1, fun z hz => (HALL.out z hz).2.2⟩, (.slice A9 (l.map (ldO l)).length c9), by rw [← HGG.out]; rfl, ?_, HBW3.out⟩
          have hgw := HGW.out
          rw [HGG.out] at hgw
          exact hgw
end
end Go.Proofs.YthifdofdoeaemaaGreatDoor.Wk
end
section
namespace Go.Proofs.YthifdofdoeaemaaGreatDoor.Wk
open Go.RowKit Go.Proofs.YthifdofdoeaemaaGreatDoorW.PrintWords Go.Proofs.YthifdofdoeaemaaGreatDoorW.PrintLast Go.Proofs.YthifdofdoeaemaaGreatDoorW.PrintMore
attribute [local go_sem] max2_int min2_int max_two min_two max_three min_three max_four min_four
set_option linter.unusedVariables false
set_option linter.unusedSimpArgs false
section
open Go.RowKit Go.Lib Go.Maps Go.Proofs.YthifdofdoeaemaaGreatDoorQ
attribute [local go_sem] Oper.semAt_some
theorem held3 {W W' : World} {b o1 o2 o3 : Nat} {v2 v3 v4 : Value} (h : W.cell? ⟨b, o1, none⟩ = some v2 ∧ W.cell? ⟨b, o2, none⟩ = some v3 ∧ W.cell? ⟨b, o3, none⟩ = some v4) (hb : Below W.heap.size W W') :
    W'.cell? ⟨b, o1, none⟩ = some v2 ∧ W'.cell? ⟨b, o2, none⟩ = some v3 ∧ W'.cell? ⟨b, o3, none⟩ = some v4 :=
  ⟨(hb.cell (World.block_lt_of_cell? _ _ h.1)).trans h.1, (hb.cell (World.block_lt_of_cell? _ _ h.2.1)).trans h.2.1, (hb.cell (World.block_lt_of_cell? _ _ h.2.2)).trans h.2.2⟩
theorem LkShape.below {w W : World} (h : Below w.heap.size w W) : LkShape w W := fun k cs hk => ⟨cs, (h.block k (blk_lt hk)).trans hk, rfl⟩
theorem RefAt.same {w W : World} {base g : Nat} {next : Int} {v : Value} {l : List (Int × GO)} {S : Nat → Prop} (h : RefAt w base g next v l) (hs : SameOn S w W) (hS : ∀ k, base ≤ k → S k) : RefAt W base g next v l := by
  obtain ⟨h1, h2, sl, n1, n2, n3⟩ := h
  exact ⟨h1, (hs.same g (hS g h1) (blk_lt h2)).trans h2, sl, n1, row_same n2 hs (fun k hk => hS k (n2.lt k hk).1), fun j x u hx hu => row_same (n3 j x u hx hu) hs (fun k hk => hS k ((n3 j x u hx hu).lt k hk).1)⟩
theorem LdAns.yes {next : Int} {l : List (Int × GO)} {w w' : World} {e : Ending} (h : LdAns next l w e w') (hp : LoadP next l) : ∃ B : GB, e = .returned (.tuple #[.pointer (some ⟨B.g, 0, none⟩), .int .i64 0]) ∧ GraphAt w' B (ldG next l) ∧ (∀ q, foot B (ldG next l) q → w.heap.size ≤ q) ∧ Below w.heap.size w w' := h.elim (fun x => x.2) (fun x => absurd hp x.1)
theorem LdAns.no {next : Int} {l : List (Int × GO)} {w w' : World} {e : Ending} (h : LdAns next l w e w') (hp : ¬ LoadP next l) : e = .returned (.tuple #[.pointer none, .int .i64 5]) ∧ Below w.heap.size w w' := h.elim (fun x => absurd x.1 hp) (fun x => x.2)
theorem RLdAns.yes {next : Int} {l : List (Int × GO)} {w w' : World} {e : Ending} (h : RLdAns next l w e w') (hp : LoadP next l) : ∃ v, e = .returned (.tuple #[.pointer (some ⟨w.heap.size, 0, none⟩), .int .i64 0]) ∧ RefAt w' w.heap.size w.heap.size next v (ldG next l).objs ∧ Below w.heap.size w w' := h.elim (fun x => x.2) (fun x => absurd hp x.1)
theorem RLdAns.no {next : Int} {l : List (Int × GO)} {w w' : World} {e : Ending} (h : RLdAns next l w e w') (hp : ¬ LoadP next l) : e = .returned (.tuple #[.pointer none, .int .i64 5]) ∧ Below w.heap.size w w' := h.elim (fun x => absurd x.1 hp) (fun x => x.2)
theorem alike_loaded {next : Int} {l : List (Int × GO)} (hp : LoadP next l) {W : World} {B : GB} (hG : GraphAt W B (ldG next l)) {base g : Nat} {v : Value} (hr : RefAt W base g next v (ldG next l).objs) :
    Calls Tryz.prog 31 #[.pointer (some ⟨B.g, 0, none⟩), .pointer (some ⟨g, 0, none⟩)] W fun e w' => e = .returned (.bool true) ∧ Below W.heap.size W w' := by
  obtain ⟨A, c, -, hrr⟩ := hr.R
  have hasc : Asc (ldG next l).objs := ld_asc hp.asc
  have h1 : has l 1 := by
    have h0 := List.getElem?_eq_getElem hp.some_
    have h2 := (hp.head _ h0).1
    exact ⟨(l[0]'hp.some_).2, by rw [← h2]; exact List.mem_of_getElem? h0⟩
  have hlen : (ldG next l).objs.length ≤ 1000 := by rw [ld_length]; have := hp.size; omega
  have hlb : ∀ x ∈ (ldG next l).objs, x.2.links.length ≤ bound := fun x hx => by have := ld_links hx hp.links; unfold bound; omega
  have hpos : ∀ x ∈ (ldG next l).objs, 0 < x.1 := fun x hx => by obtain ⟨z, hz, rfl⟩ := ld_mem hx; exact asc_pos hp.asc (fun x hx => (hp.head x hx).1) z hz
  have hrch : ∀ x ∈ (ldG next l).objs, Rch (ldG next l) x.1 := fun x hx => by obtain ⟨z, hz, rfl⟩ := ld_mem hx; exact ld_rch.2 (hp.rch z hz)
  have hall : rchL (ldG next l).objs = (ldG next l).objs := rchL_all (fun x hx => by obtain ⟨z, hz, rfl⟩ := ld_mem hx; exact (rch_grL (next := next)).2 (hp.rch z hz))
  refine alike_calls W _ next g A c (ldG next l).objs hrr hasc hpos (ld_has.2 h1) hlen hlb (fun W' hb => ?_) (fun W' hb => ?_) (fun W' hb => ?_)
  · exact nodes_calls B _ W' (hG.below hb) (by unfold bound; omega) hlb
  · exact next_calls B _ W' (hG.below hb)
  · rw [hall]
    exact reach_all B _ W' (hG.below hb) (ld_closed (fun x hx k hk h0 => hp.closed x hx k hk h0)) hrch (ld_has.2 h1) hlen hlb
set_option maxHeartbeats 32000000 in
set_option maxRecDepth 100000 in
theorem law9_calls (next : Int) (A : Option Addr) (c : Nat) (l : List (Int × GO)) (w : World) (hl : Lay w) (hn : NodesR w A l) (hwf : ∀ x ∈ l, (Lit.int .i64 x.1).wf = true) (hwk : ∀ x ∈ l, ∀ k ∈ x.2.links, (Lit.int .i64 k.2.1).wf = true) (hlen : l.length ≤ 140737488351232) (hlb : ∀ x ∈ l, x.2.links.length ≤ 140737488351232) :
    Calls Tryz.prog 9 #[.int .i64 next, .slice A l.length c] w fun e w' => e = .returned (.bool true) ∧ Below w.heap.size w w' := by
  have HL := Aside0.mk hl
  have HN := Aside0.mk hn
  have HWF := Aside0.mk hwf
  have HWK := Aside0.mk hwk
  have HLEN := Aside0.mk hlen
  have HLB := Aside0.mk hlb
  clear hl hn hwf hwk hlen hlb
  go_enter Tryz.func9, Tryz.ntmps9
  go_wp2
  go_loopg [5, 6] l.length (fun kq v5 v6 W => ∃ (i : Nat) (iv nv : Int), v5 = .int .i64 nv ∧ v6 = .int .i64 iv ∧ Aside0 (iv = (i : Int)) ∧ Aside0 (nv = ((l.length + sumO lenO (l.take i) : Nat) : Int)) ∧ Aside0 (nv ≤ 140737488353232) ∧ Aside0 (i ≤ l.length ∧ l.length - i ≤ kq) ∧ W = w)
  case atStart => exact ⟨0, 0, (l.length : Int), rfl, rfl, ⟨rfl⟩, ⟨by simp [sumO]⟩, ⟨by have := HLEN.out; omega⟩, ⟨by omega, by omega⟩, rfl⟩
  case round =>
    obtain ⟨i, iv, nv, rfl, rfl, HIV, HNV, HNB, HI, hw⟩ := hrel
    obtain rfl := hw.symm
    by_cases hbig : 2000 ≤ nv
    · have n1 : decide (nv < 2000) = false := decide_eq_false (by omega)
      have n2 : decide (2000 ≤ nv) = true := decide_eq_true hbig
      clear hbig
      by_cases hlt : i < l.length
      · have q1 : decide (iv < (l.length : Int)) = true := decide_eq_true (by have := HIV.out; omega)
        clear hlt
        go_wp2_with (go_at_call 14; refine (lives_calls _ HL.out).mono ?_; rintro e_ w2 ⟨rfl, hb2⟩; have HB2 := Aside0.mk hb2; clear hb2)
        go_ret
        exact ⟨rfl, HB2.out⟩
      · have q1 : decide (iv < (l.length : Int)) = false := decide_eq_false (by have := HIV.out; omega)
        clear hlt
        go_wp2_with (go_at_call 14; refine (lives_calls _ HL.out).mono ?_; rintro e_ w2 ⟨rfl, hb2⟩; have HB2 := Aside0.mk hb2; clear hb2)
        go_ret
        exact ⟨rfl, HB2.out⟩
    have n1 : decide (nv < 2000) = true := decide_eq_true (by omega)
    have n2 : decide (2000 ≤ nv) = false := decide_eq_false (by omega)
    have HSM : Aside0 (nv < 2000) := ⟨by omega⟩
    clear hbig
    by_cases hlt : i < l.length
    · obtain ⟨x, hx⟩ : ∃ x, l[i]? = some x := ⟨_, List.getElem?_eq_getElem hlt⟩
      obtain ⟨b, o, Ax, cx, rfl, -, -, -, x2, -, -⟩ := HN.out.at hx
      have q1 : decide (iv < (l.length : Int)) = true := decide_eq_true (by have := HIV.out; omega)
      have q2 : (iv < (l.length : Int)) = True := eq_true (by have := HIV.out; omega)
      have q3 : (0 : Int) ≤ iv := by have := HIV.out; omega
      have q4 : iv.toNat = i := by have := HIV.out; omega
      have w1_ : wrap64 (iv + 1) = iv + 1 := wrap_ok9 _ (by omega) (by have := HIV.out; have := HLEN.out; omega)
      have hxl := HLB.out x (List.mem_of_getElem? hx)
      have hst : sumO lenO (l.take (i + 1)) = sumO lenO (l.take i) + x.2.links.length := sumO_takeS hx
      have w2_ : wrap64 (nv + (x.2.links.length : Int)) = nv + (x.2.links.length : Int) := wrap_ok9 _ (by have := HNV.out; omega) (by have := HSM.out; omega)
      have HXL := Aside0.mk hxl
      have HST := Aside0.mk hst
      have HLT := Aside0.mk hlt
      clear hx hlt hst hxl
      go_wp2
      clear q4
      go_roundg (gk - 1)
      case measure => have := HI.out; have := HLT.out; omega
      case rel => exact ⟨i + 1, iv + 1, nv + (x.2.links.length : Int), by first | rfl | rw [w2_], by first | rfl | rw [w1_], ⟨by have := HIV.out; omega⟩, ⟨by have := HST.out; have := HNV.out; omega⟩, ⟨by have := HSM.out; have := HXL.out; omega⟩, ⟨by have := HLT.out; omega, by have := HI.out; omega⟩, rfl⟩
    have q1 : decide (iv < (l.length : Int)) = false := decide_eq_false (by have := HIV.out; omega)
    have HSUM : Aside0 (l.length + sumO lenO l < 2000) := ⟨by have h1 := HNV.out; rw [List.take_of_length_le (by omega)] at h1; have := HSM.out; omega⟩
    have HBD : Aside0 (l.length ≤ bound) := ⟨by have := HSUM.out; unfold bound; omega⟩
    have HXB : Aside0 (∀ x ∈ l, x.2.links.length ≤ bound) := ⟨fun x hx => by have h9 : x.2.links.length ≤ sumO lenO l := le_sumO lenO hx; have := HSUM.out; unfold bound; omega⟩
    clear hlt
    go_upto_region 10 with (fail)
    clear n1 n2 q1
    go_loopg [7, 8] l.length (fun kq v7 v8 W => ∃ (i : Nat) (iv : Int), v8 = .int .i64 iv ∧ Aside0 (iv = (i : Int)) ∧ Aside0 (i ≤ l.length ∧ l.length - i ≤ kq) ∧ Aside0 (NodesAt W w.heap.size v7 (l.take i)) ∧ Aside0 (Below w.heap.size w W))
    case atStart => exact ⟨0, 0, rfl, ⟨rfl⟩, ⟨by omega, by omega⟩, ⟨nodes_nil _ _⟩, ⟨Below.refl _ _⟩⟩
    case round =>
      obtain ⟨i, iv, rfl, HIV, HI, HO, HBW⟩ := hrel
      by_cases hlt : i < l.length
      · obtain ⟨x, hx⟩ : ∃ x, l[i]? = some x := ⟨_, List.getElem?_eq_getElem hlt⟩
        obtain ⟨b, o, Ax, cx, rfl, -, x0, x1, x2, -, hxr⟩ := (HN.out.below HBW.out).at hx
        have HXR := Aside0.mk hxr
        have q1 : decide (iv < (l.length : Int)) = true := decide_eq_true (by have := HIV.out; omega)
        have q2 : (iv < (l.length : Int)) = True := eq_true (by have := HIV.out; omega)
        have q3 : (0 : Int) ≤ iv := by have := HIV.out; omega
        have q4 : iv.toNat = i := by have := HIV.out; omega
        have w1_ : wrap64 (iv + 1) = iv + 1 := wrap_ok9 _ (by omega) (by have := HIV.out; have := HLEN.out; omega)
        have HLT := Aside0.mk hlt
        have HXL := Aside0.mk (HXB.out x (List.mem_of_getElem? hx))
        have HTL : Aside0 ((l.take i).length = i) := ⟨by rw [List.length_take]; omega⟩
        have HTK : Aside0 (l.take (i + 1) = l.take i ++ [x]) := ⟨by obtain ⟨h1, e1⟩ := List.getElem?_eq_some_iff.1 hx; rw [List.take_succ_eq_append_getElem h1, e1]⟩
        clear hx hlt hxr
        go_upto_region 12 with (fail)
        have hS : wr.drew.cell? ⟨b, o + i * 3, none⟩ = some (.int .i64 x.1) ∧ wr.drew.cell? ⟨b, o + i * 3 + 1, none⟩ = some (.int .i64 x.2.kind) ∧ wr.drew.cell? ⟨b, o + i * 3 + 2, none⟩ = some (.slice Ax x.2.links.length cx) := ⟨x0, x1, x2⟩
        refine start_ (n := 22) (S := fun W' => W'.cell? ⟨b, o + i * 3, none⟩ = some (.int .i64 x.1) ∧ W'.cell? ⟨b, o + i * 3 + 1, none⟩ = some (.int .i64 x.2.kind) ∧ W'.cell? ⟨b, o + i * 3 + 2, none⟩ = some (.slice Ax x.2.links.length cx)) (ds := [19, 20]) #[false, false, false, false, false, false, false, false, false, false, false, false, false, false, false, false, false, false, false, false, false, false] (by kernel_rfl) rfl rfl hS (fun hHeld => ?_)
        refine pure_ (i := 0) (N := some 44) (v := ?_) (a' := ?_) (bb 22 1) rfl rfl (by kernel_rfl) (fun _ _ _ h => h) (Or.inl ⟨by rfl, ?_⟩) ?_ ?_
        rotate_left
        · intro w'
          go_simp
          with_reducible rfl
        rotate_left
        · simp only [Act.put, sa, sz, ss, i64_w, i32_w]
          rfl
        refine pure_ (i := 1) (N := some 45) (v := ?_) (a' := ?_) (bb 22 3) rfl rfl (by kernel_rfl) (fun _ _ _ h => h) (Or.inl ⟨by rfl, ?_⟩) ?_ ?_
        rotate_left
        · intro w'
          go_simp
          with_reducible rfl
        rotate_left
        · simp only [Act.put, sa, sz, ss, i64_w, i32_w]
          rfl
        refine pure_ (i := 2) (N := some 46) (v := ?_) (a' := ?_) (bb 22 7) rfl rfl (by kernel_rfl) (fun _ _ _ h => h) (Or.inl ⟨by rfl, ?_⟩) ?_ ?_
        rotate_left
        · intro w'
          go_simp
          with_reducible rfl
        rotate_left
        · simp only [Act.put, sa, sz, ss, i64_w, i32_w]
          rfl
        refine pure_ (i := 3) (N := some 47) (v := ?_) (a' := ?_) (bb 22 15) rfl rfl (by kernel_rfl) (fun _ _ _ h => h) (Or.inl ⟨by rfl, ?_⟩) ?_ ?_
        rotate_left
        · intro w'
          go_simp
          with_reducible rfl
        rotate_left
        · simp only [Act.put, sa, sz, ss, i64_w, i32_w]
          rfl
        refine pure_ (i := 4) (N := some 48) (v := ?_) (a' := ?_) (bb 22 31) rfl rfl (by kernel_rfl) (fun _ _ _ h => h) (Or.inl ⟨by rfl, ?_⟩) ?_ ?_
        rotate_left
        · intro w'
          go_simp
          with_reducible rfl
        rotate_left
        · simp only [Act.put, sa, sz, ss, i64_w, i32_w]
          rfl
        refine take_ (i := 5) (N := some 49) (v := ?_) (a' := ?_) (bb 22 63) rfl rfl (by kernel_rfl) (fun _ _ _ h => h) (Or.inl ⟨by rfl, ?_⟩) hHeld ?_ ?_
        rotate_left
        · rintro w' ⟨s1_, s2_, s3_⟩
          go_simp
          with_reducible rfl
        rotate_left
        · simp only [Act.put, sa, sz, ss, i64_w, i32_w]
          rfl
        refine pure_ (i := 6) (N := some 50) (v := ?_) (a' := ?_) (bb 22 127) rfl rfl (by kernel_rfl) (fun _ _ _ h => h) (Or.inl ⟨by rfl, ?_⟩) ?_ ?_
        rotate_left
        · intro w'
          go_simp
          with_reducible rfl
        rotate_left
        · simp only [Act.put, sa, sz, ss, i64_w, i32_w]
          rfl
        refine pure_ (i := 7) (N := some 51) (v := ?_) (a' := ?_) (bb 22 255) rfl rfl (by kernel_rfl) (fun _ _ _ h => h) (Or.inl ⟨by rfl, ?_⟩) ?_ ?_
        rotate_left
        · intro w'
          go_simp
          with_reducible rfl
        rotate_left
        · simp only [Act.put, sa, sz, ss, i64_w, i32_w]
          rfl
        refine pure_ (i := 8) (N := some 52) (v := ?_) (a' := ?_) (bb 22 511) rfl rfl (by kernel_rfl) (fun _ _ _ h => h) (Or.inl ⟨by rfl, ?_⟩) ?_ ?_
        rotate_left
        · intro w'
          go_simp
          with_reducible rfl
        rotate_left
        · simp only [Act.put, sa, sz, ss, i64_w, i32_w]
          rfl
        refine pure_ (i := 9) (N := some 53) (v := ?_) (a' := ?_) (bb 22 1023) rfl rfl (by kernel_rfl) (fun _ _ _ h => h) (Or.inl ⟨by rfl, ?_⟩) ?_ ?_
        rotate_left
        · intro w'
          go_simp
          with_reducible rfl
        rotate_left
        · simp only [Act.put, sa, sz, ss, i64_w, i32_w]
          rfl
        refine take_ (i := 10) (N := some 54) (v := ?_) (a' := ?_) (bb 22 2047) rfl rfl (by kernel_rfl) (fun _ _ _ h => h) (Or.inl ⟨by rfl, ?_⟩) hHeld ?_ ?_
        rotate_left
        · rintro w' ⟨s1_, s2_, s3_⟩
          go_simp
          with_reducible rfl
        rotate_left
        · simp only [Act.put, sa, sz, ss, i64_w, i32_w]
          rfl
        refine pure_ (i := 12) (N := some 56) (v := ?_) (a' := ?_) (bb 22 6143) rfl rfl (by kernel_rfl) (fun _ _ _ h => h) (Or.inl ⟨by rfl, ?_⟩) ?_ ?_
        rotate_left
        · intro w'
          go_simp
          with_reducible rfl
        rotate_left
        · simp only [Act.put, sa, sz, ss, i64_w, i32_w]
          rfl
        refine pure_ (i := 13) (N := some 57) (v := ?_) (a' := ?_) (bb 22 14335) rfl rfl (by kernel_rfl) (fun _ _ _ h => h) (Or.inl ⟨by rfl, ?_⟩) ?_ ?_
        rotate_left
        · intro w'
          go_simp
          with_reducible rfl
        rotate_left
        · simp only [Act.put, sa, sz, ss, i64_w, i32_w]
          rfl
        refine pure_ (i := 14) (N := some 58) (v := ?_) (a' := ?_) (bb 22 30719) rfl rfl (by kernel_rfl) (fun _ _ _ h => h) (Or.inl ⟨by rfl, ?_⟩) ?_ ?_
        rotate_left
        · intro w'
          go_simp
          with_reducible rfl
        rotate_left
        · simp only [Act.put, sa, sz, ss, i64_w, i32_w]
          rfl
        refine pure_ (i := 15) (N := some 59) (v := ?_) (a' := ?_) (bb 22 63487) rfl rfl (by kernel_rfl) (fun _ _ _ h => h) (Or.inl ⟨by rfl, ?_⟩) ?_ ?_
        rotate_left
        · intro w'
          go_simp
          with_reducible rfl
        rotate_left
        · simp only [Act.put, sa, sz, ss, i64_w, i32_w]
          rfl
        refine take_ (i := 16) (N := some 60) (v := ?_) (a' := ?_) (bb 22 129023) rfl rfl (by kernel_rfl) (fun _ _ _ h => h) (Or.inl ⟨by rfl, ?_⟩) hHeld ?_ ?_
        rotate_left
        · rintro w' ⟨s1_, s2_, s3_⟩
          go_simp
          with_reducible rfl
        rotate_left
        · simp only [Act.put, sa, sz, ss, i64_w, i32_w]
          rfl
        refine one_ (i := 11) (N := some 55) (bb 22 131071) rfl rfl (by kernel_rfl) (by decide) (fun K hK => ?_)
        skip
        refine value_ (v := .slice (some ⟨wr.drew.heap.size, 0, none⟩) 0 0) (w1 := wr.drew.alloc (.cells #[] 42 (0, 0))) (by rfl) rfl (by go_simp) ?_
        refine hK.out _ _ (held3 hHeld (below_alloc (Below.refl _ _) _)) (fun hHeld => ?_)
        clear hK K
        refine norm_ (a' := ?_) ?_ ?_
        rotate_left
        · show Act.put _ (some 55) _ = _
          simp only [Act.put, sa, sz, ss, i64_w, i32_w]
          rfl
        obtain ⟨A5, c5, w5, hr5, ho5, hb5⟩ := links_copied wr.drew (A := Ax) (n := x.2.links.length) (c := cx) (HXR.out.below (below_drew (Below.refl _ _))) rfl HXL.out
        have HR5 := Aside0.mk hr5
        have HO5 := Aside0.mk ho5
        have HB5 : Aside0 (Below wr.heap.size wr w5) := ⟨(below_drew (Below.refl _ _)).trans hb5⟩
        clear hr5 ho5
        refine one_ (i := 17) (N := some 61) (bb 22 262143) rfl rfl (by kernel_rfl) (by decide) (fun K hK => ?_)
        refine step_append rfl (.tmp 55) (.tmp 60) 38 rfl rfl rfl HR5.out ?_
        refine hK.out _ _ (held3 hS hb5) (fun hHeld => ?_)
        clear hK K hb5
        refine norm_ (a' := ?_) ?_ ?_
        rotate_left
        · show Act.put _ (some 61) _ = _
          simp only [Act.put, sa, sz, ss, i64_w, i32_w]
          rfl
        refine pure_ (i := 18) (N := some 62) (v := ?_) (a' := ?_) (bb 22 524287) rfl rfl (by kernel_rfl) (fun _ _ _ h => h) (Or.inl ⟨by rfl, ?_⟩) ?_ ?_
        rotate_left
        · intro w'
          go_simp
          with_reducible rfl
        rotate_left
        · simp only [Act.put, sa, sz, ss, i64_w, i32_w]
          rfl
        refine last_ (i := 19) (N := some 63) (bb 22 1048575) rfl rfl (by kernel_rfl) (by decide) (fun K hK => ?_)
        skip
        refine value_ (v := .slice (some ⟨w5.heap.size, 0, none⟩) 1 1) (w1 := w5.alloc (.cells #[.int .i64 x.1, .int .i64 x.2.kind, .slice A5 x.2.links.length c5] 50 (0, 0))) (by rfl) rfl (by go_simp) ?_
        refine hK.out _ _ ?_
        clear hK K
        refine norm_ (a' := ?_) ?_ ?_
        rotate_left
        · show Act.put _ (some 63) _ = _
          simp only [Act.put, sa, sz, ss, i64_w, i32_w]
          rfl
        obtain ⟨A7, c7, w7, hr7, hpush, hb7⟩ := node_pushed HO.out HB5.out HBW.out.size HO5.out (by have := HTL.out; have := HBD.out; have := HLT.out; omega)
        rw [HTL.out] at hr7 hpush
        rw [← HTK.out] at hpush
        have HR7 := Aside0.mk hr7
        have HPUSH := Aside0.mk hpush
        have HB7 := Aside0.mk (HBW.out.trans hb7)
        clear hr7 hpush hb7
        refine last_ (i := 20) (N := some 64) (bb 22 2097151) rfl rfl (by kernel_rfl) (by decide) (fun K hK => ?_)
        refine step_append rfl (.tmp 44) (.tmp 63) 46 rfl rfl rfl HR7.out ?_
        refine hK.out _ _ ?_
        clear hK K
        refine norm_ (a' := ?_) ?_ ?_
        rotate_left
        · show Act.put _ (some 64) _ = _
          simp only [Act.put, sa, sz, ss, i64_w, i32_w]
          rfl
        refine pure_ (i := 21) (N := some 7) (v := ?_) (a' := ?_) (bb 22 4194303) rfl rfl (by kernel_rfl) (fun _ _ _ h => h) (Or.inl ⟨by rfl, ?_⟩) ?_ ?_
        rotate_left
        · intro w'
          go_simp
          with_reducible rfl
        rotate_left
        · simp only [Act.put, sa, sz, ss, i64_w, i32_w]
          rfl
        refine done_ (by kernel_rfl) ?_
        clear hHeld hS x0 x1 x2
        go_wp2
        clear q4
        go_roundg (gk - 1)
        case measure => have := HI.out; have := HLT.out; omega
        case rel => exact ⟨i + 1, iv + 1, by first | rfl | rw [w1_], ⟨by have := HIV.out; omega⟩, ⟨by have := HLT.out; omega, by have := HI.out; omega⟩, HPUSH, HB7⟩
      have q1 : decide (iv < (l.length : Int)) = false := decide_eq_false (by have := HIV.out; omega)
      have hown := HO.out
      rw [List.take_of_length_le (by omega)] at hown
      obtain ⟨A7, c7, rfl⟩ := nodes_sl hown
      have HOWN := Aside0.mk hown
      have HLY : Aside0 (Lay wr) := ⟨lay_below HL.out HBW.out⟩
      have HNW := Aside0.mk (HN.out.below HBW.out)
      clear hlt hown
      go_upto_region 13 with (fail)
      clear q1
      obtain ⟨w2, hw2⟩ : ∃ w2, w2 = wr := ⟨_, rfl⟩
      rw [← hw2]
      rw [← hw2] at HOWN HLY HNW HBW HO
      clear hw2
      by_cases hP : LoadP next l
      · have HP := Aside0.mk hP
        clear hP
        go_upto_region 14 with (go_at_call 28; refine (load_gen next l HWF.out HWK.out (by have := HSUM.out; omega) (by have := HSUM.out; omega) _ HLY.out A7 c7 (nodes_own HOWN.out)).mono ?_; rintro e_ w3 ans; obtain ⟨B, rfl, hG3, hf3, hb3⟩ := ans.yes HP.out; have HG3 := Aside0.mk hG3; have HF3 := Aside0.mk hf3; have HB3 := Aside0.mk hb3; clear hG3 hf3 hb3)
        go_upto_region 15 with (go_at_call 29; refine (refLoad_calls next l (by have := HSUM.out; omega) (by have := HSUM.out; omega) _ A c (HNW.out.below HB3.out)).mono ?_; rintro e_ w4 ans; obtain ⟨vr, rfl, hr4, hb4⟩ := ans.yes HP.out; have HR4 := Aside0.mk hr4; have HB4 := Aside0.mk hb4; clear hr4 hb4)
        obtain ⟨gr, hgr⟩ : ∃ gr, gr = w3.heap.size := ⟨_, rfl⟩
        rw [← hgr]
        have HGR := Aside0.mk hgr
        clear hgr
        have HB34 : Aside0 (Below w2.heap.size w2 w4) := ⟨HB3.out.trans (HB4.out.mono HB3.out.size)⟩
        have HOW4 := Aside0.mk (HOWN.out.below HB34.out)
        have HNW4 := Aside0.mk (HNW.out.below HB34.out)
        go_upto_region 18 with (go_at_call 30; refine (nodes_sameR _ A7 A c7 c l (nodes_own HOW4.out) HNW4.out HBD.out HXB.out).mono ?_; rintro e_ w5 ⟨rfl, m5, hw5⟩; have hb5 := below_dn2 w4 m5; rw [← hw5] at hb5; have HB5 := Aside0.mk hb5; clear hb5 hw5)
        have HBA : Aside0 (Below w2.heap.size w2 w5) := ⟨HB34.out.trans (HB5.out.mono HB34.out.size)⟩
        have HBW5 : Aside0 (Below w.heap.size w w5) := ⟨HBW.out.trans (HBA.out.mono HBW.out.size)⟩
        have HGN5 : Aside0 (∀ b, A7 = some (⟨b, 0, none⟩ : Addr) → w5.heap[b]? = w2.heap[b]?) := ⟨fun b hb => by
          have h1 := HOWN.out
          rw [hb] at h1
          obtain ⟨cn, hcn⟩ := h1.typed
          exact HBA.out.block b (blk_lt hcn)⟩
        go_loopg [13] l.length (fun kq v13 W => ∃ (i : Nat) (iv : Int), v13 = .int .i64 iv ∧ Aside0 (iv = (i : Int)) ∧ Aside0 (i ≤ l.length ∧ l.length - i ≤ kq) ∧ Aside0 (Below w.heap.size w W) ∧ Aside0 (LkShape w2 W) ∧ Aside0 (∀ b, A7 = some (⟨b, 0, none⟩ : Addr) → W.heap[b]? = w2.heap[b]?) ∧ Aside0 (SameOn (fun k => w2.heap.size ≤ k) w5 W))
        case atStart => exact ⟨0, 0, rfl, ⟨rfl⟩, ⟨by omega, by omega⟩, HBW5, ⟨LkShape.below HBA.out⟩, HGN5, ⟨SameOn.refl _ _⟩⟩
        case round =>
          obtain ⟨i, iv, rfl, HIV, HI, HBX, HSH, HGN, HSO⟩ := hrel
          by_cases hlt : i < l.length
          · obtain ⟨x, hx⟩ : ∃ x, l[i]? = some x := ⟨_, List.getElem?_eq_getElem hlt⟩
            obtain ⟨gn, c7', Ax, cx, e5, hgn, -, -, x2, xr⟩ := node_row HOWN.out hx
            obtain ⟨rfl, rfl⟩ : A7 = some ⟨gn, 0, none⟩ ∧ c7 = c7' := by simpa using e5
            obtain ⟨cn, hcn⟩ := HOWN.out.typed
            have HCN := Aside0.mk hcn
            have HX2 := Aside0.mk x2
            have HXR := Aside0.mk xr
            have y2 : wr.cell? ⟨gn, i * 3 + 2, none⟩ = some (.slice Ax x.2.links.length cx) := (cell_heap (HGN.out gn rfl) hcn _).trans x2
            have q1 : decide (iv < (l.length : Int)) = true := decide_eq_true (by have := HIV.out; omega)
            have q2 : (iv < (l.length : Int)) = True := eq_true (by have := HIV.out; omega)
            have q3 : (0 : Int) ≤ iv := by have := HIV.out; omega
            have q4 : iv.toNat = i := by have := HIV.out; omega
            have w1_ : wrap64 (iv + 1) = iv + 1 := wrap_ok9 _ (by omega) (by have := HIV.out; have := HLEN.out; omega)
            have HXL := Aside0.mk (HXB.out x (List.mem_of_getElem? hx))
            have HLT := Aside0.mk hlt
            obtain ⟨gk0, HGK⟩ : ∃ gk0, Aside0 (gk0 = gk) := ⟨_, ⟨rfl⟩⟩
            clear hx hlt e5 hgn x2 xr hcn
            go_upto_region 21 with (fail)
            clear y2
            go_loopg [14] x.2.links.length (fun kq v14 W => ∃ (m : Nat) (mv : Int), v14 = .int .i64 mv ∧ Aside0 (mv = (m : Int)) ∧ Aside0 (m ≤ x.2.links.length ∧ x.2.links.length - m ≤ kq) ∧ Aside0 (Below w.heap.size w W) ∧ Aside0 (LkShape w2 W) ∧ Aside0 (W.heap[gn]? = w2.heap[gn]?) ∧ Aside0 (SameOn (fun k => w2.heap.size ≤ k) w5 W))
            case atStart => exact ⟨0, 0, rfl, ⟨rfl⟩, ⟨by omega, by omega⟩, HBX, HSH, ⟨HGN.out gn rfl⟩, HSO⟩
            case round =>
              obtain ⟨m, mv, rfl, HMV, HM, HBM, HSM, HGM, HSN⟩ := hrel
              have y2 : wr.cell? ⟨gn, i * 3 + 2, none⟩ = some (.slice Ax x.2.links.length cx) := (cell_heap HGM.out HCN.out _).trans HX2.out
              by_cases hmt : m < x.2.links.length
              · obtain ⟨gl, cs, rfl, hgl, hgl2, hcs, hsz⟩ := spoil_row HXR.out rfl HSM.out hmt
                have f1 : wr.frozen? ⟨gl, m * 3 + 1, none⟩ = false := blk_frozen hcs _
                obtain ⟨u0, hu0⟩ : ∃ u0, wr.cell? ⟨gl, m * 3 + 1, none⟩ = some u0 := ⟨cs[m * 3 + 1]'(by omega), (blk_cell hcs _).trans (Array.getElem?_eq_getElem _)⟩
                have HCS := Aside0.mk hcs
                have HGL := Aside0.mk (And.intro hgl hgl2)
                have HNE : Aside0 (gn ≠ gl) := ⟨by
                  rintro rfl
                  have h1 := (HGM.out).trans HCN.out
                  rw [hcs] at h1
                  cases h1⟩
                have p1 : decide (mv < (x.2.links.length : Int)) = true := decide_eq_true (by have := HMV.out; omega)
                have p2 : (mv < (x.2.links.length : Int)) = True := eq_true (by have := HMV.out; omega)
                have p3 : (0 : Int) ≤ mv := by have := HMV.out; omega
                have p4 : mv.toNat = m := by have := HMV.out; omega
                have w2_ : wrap64 (mv + 1) = mv + 1 := wrap_ok9 _ (by omega) (by have := HMV.out; have := HXL.out; unfold bound at this; omega)
                have HMT := Aside0.mk hmt
                clear hcs hgl hgl2 hsz hmt
                go_wp2
                clear p4
                go_roundg (gk - 1)
                case measure => have := HM.out; have := HMT.out; omega
                case rel => exact ⟨m + 1, mv + 1, by first | rfl | rw [w2_], ⟨by have := HMV.out; omega⟩, ⟨by have := HMT.out; omega, by have := HM.out; omega⟩, ⟨HBM.out.setCell HGL.out.1 _⟩, ⟨HSM.out.set HCS.out _ _⟩, ⟨(Below.heap_setCell _ _ _ _ HNE.out).trans HGM.out⟩, ⟨HSN.out.trans (SameOn.setCell _ _ _ (fun h => by have h1 := HGL.out.2; have h2 : w2.heap.size ≤ gl := h; omega))⟩⟩
              · have p1 : decide (mv < (x.2.links.length : Int)) = false := decide_eq_false (by have := HMV.out; omega)
                have p2 : (mv < (x.2.links.length : Int)) = False := eq_false (by have := HMV.out; omega)
                clear hmt
                go_wp2
                clear q4
                go_roundg (gk0 - 1)
                case measure => have := HI.out; have := HLT.out; have := HGK.out; omega
                case rel => exact ⟨i + 1, iv + 1, by first | rfl | rw [w1_], ⟨by have := HIV.out; omega⟩, ⟨by have := HLT.out; omega, by have := HI.out; have := HGK.out; omega⟩, HBM, HSM, ⟨fun b hb => by cases hb; exact HGM.out⟩, HSN⟩
          · have q1 : decide (iv < (l.length : Int)) = false := decide_eq_false (by have := HIV.out; omega)
            clear hlt
            have HGF : Aside0 (GraphAt wr B (ldG next l)) := ⟨((HG3.out.below HB4.out).below HB5.out).same HSO.out (fun k hk => HF3.out k hk)⟩
            have HRF : Aside0 (RefAt wr gr gr next vr (ldG next l).objs) := ⟨by have h1 := HR4.out; rw [← HGR.out] at h1; exact (h1.below HB5.out).same HSO.out (fun k hk => by have := HB3.out.size; have := HGR.out; show w2.heap.size ≤ k; omega)⟩
            go_wp2_with (first
              | (go_at_call 31; refine (alike_loaded HP.out HGF.out HRF.out).mono ?_; rintro e_ wa ⟨rfl, hba⟩; have HBa := Aside0.mk (HBX.out.trans (hba.mono HBX.out.size)); clear hba)
              | (go_at_call 14; refine (lives_calls _ (lay_below HL.out HBa.out)).mono ?_; rintro e_ wl ⟨rfl, hbl⟩; have HBl := Aside0.mk (HBa.out.trans (hbl.mono HBa.out.size)); clear hbl))
            go_ret
            exact ⟨rfl, HBl.out⟩
      · have HP := Aside0.mk hP
        clear hP
        go_upto_region 14 with (go_at_call 28; refine (load_gen next l HWF.out HWK.out (by have := HSUM.out; omega) (by have := HSUM.out; omega) _ HLY.out A7 c7 (nodes_own HOWN.out)).mono ?_; rintro e_ w3 ans; obtain ⟨rfl, hb3⟩ := ans.no HP.out; have HB3 := Aside0.mk hb3; clear hb3)
        go_upto_region 15 with (go_at_call 29; refine (refLoad_calls next l (by have := HSUM.out; omega) (by have := HSUM.out; omega) _ A c (HNW.out.below HB3.out)).mono ?_; rintro e_ w4 ans; obtain ⟨rfl, hb4⟩ := ans.no HP.out; have HB4 := Aside0.mk hb4; clear hb4)
        have HB34 : Aside0 (Below w2.heap.size w2 w4) := ⟨HB3.out.trans (HB4.out.mono HB3.out.size)⟩
        have HOW4 := Aside0.mk (HOWN.out.below HB34.out)
        have HNW4 := Aside0.mk (HNW.out.below HB34.out)
        go_upto_region 18 with (go_at_call 30; refine (nodes_sameR _ A7 A c7 c l (nodes_own HOW4.out) HNW4.out HBD.out HXB.out).mono ?_; rintro e_ w5 ⟨rfl, m5, hw5⟩; have hb5 := below_dn2 w4 m5; rw [← hw5] at hb5; have HB5 := Aside0.mk hb5; clear hb5 hw5)
        have HBA : Aside0 (Below w2.heap.size w2 w5) := ⟨HB34.out.trans (HB5.out.mono HB34.out.size)⟩
        have HBW5 : Aside0 (Below w.heap.size w w5) := ⟨HBW.out.trans (HBA.out.mono HBW.out.size)⟩
        have HGN5 : Aside0 (∀ b, A7 = some (⟨b, 0, none⟩ : Addr) → w5.heap[b]? = w2.heap[b]?) := ⟨fun b hb => by
          have h1 := HOWN.out
          rw [hb] at h1
          obtain ⟨cn, hcn⟩ := h1.typed
          exact HBA.out.block b (blk_lt hcn)⟩
        go_loopg [13] l.length (fun kq v13 W => ∃ (i : Nat) (iv : Int), v13 = .int .i64 iv ∧ Aside0 (iv = (i : Int)) ∧ Aside0 (i ≤ l.length ∧ l.length - i ≤ kq) ∧ Aside0 (Below w.heap.size w W) ∧ Aside0 (LkShape w2 W) ∧ Aside0 (∀ b, A7 = some (⟨b, 0, none⟩ : Addr) → W.heap[b]? = w2.heap[b]?) ∧ Aside0 (SameOn (fun k => w2.heap.size ≤ k) w5 W))
        case atStart => exact ⟨0, 0, rfl, ⟨rfl⟩, ⟨by omega, by omega⟩, HBW5, ⟨LkShape.below HBA.out⟩, HGN5, ⟨SameOn.refl _ _⟩⟩
        case round =>
          obtain ⟨i, iv, rfl, HIV, HI, HBX, HSH, HGN, HSO⟩ := hrel
          by_cases hlt : i < l.length
          · obtain ⟨x, hx⟩ : ∃ x, l[i]? = some x := ⟨_, List.getElem?_eq_getElem hlt⟩
            obtain ⟨gn, c7', Ax, cx, e5, hgn, -, -, x2, xr⟩ := node_row HOWN.out hx
            obtain ⟨rfl, rfl⟩ : A7 = some ⟨gn, 0, none⟩ ∧ c7 = c7' := by simpa using e5
            obtain ⟨cn, hcn⟩ := HOWN.out.typed
            have HCN := Aside0.mk hcn
            have HX2 := Aside0.mk x2
            have HXR := Aside0.mk xr
            have y2 : wr.cell? ⟨gn, i * 3 + 2, none⟩ = some (.slice Ax x.2.links.length cx) := (cell_heap (HGN.out gn rfl) hcn _).trans x2
            have q1 : decide (iv < (l.length : Int)) = true := decide_eq_true (by have := HIV.out; omega)
            have q2 : (iv < (l.length : Int)) = True := eq_true (by have := HIV.out; omega)
            have q3 : (0 : Int) ≤ iv := by have := HIV.out; omega
            have q4 : iv.toNat = i := by have := HIV.out; omega
            have w1_ : wrap64 (iv + 1) = iv + 1 := wrap_ok9 _ (by omega) (by have := HIV.out; have := HLEN.out; omega)
            have HXL := Aside0.mk (HXB.out x (List.mem_of_getElem? hx))
            have HLT := Aside0.mk hlt
            obtain ⟨gk0, HGK⟩ : ∃ gk0, Aside0 (gk0 = gk) := ⟨_, ⟨rfl⟩⟩
            clear hx hlt e5 hgn x2 xr hcn
            go_upto_region 21 with (fail)
            clear y2
            go_loopg [14] x.2.links.length (fun kq v14 W => ∃ (m : Nat) (mv : Int), v14 = .int .i64 mv ∧ Aside0 (mv = (m : Int)) ∧ Aside0 (m ≤ x.2.links.length ∧ x.2.links.length - m ≤ kq) ∧ Aside0 (Below w.heap.size w W) ∧ Aside0 (LkShape w2 W) ∧ Aside0 (W.heap[gn]? = w2.heap[gn]?) ∧ Aside0 (SameOn (fun k => w2.heap.size ≤ k) w5 W))
            case atStart => exact ⟨0, 0, rfl, ⟨rfl⟩, ⟨by omega, by omega⟩, HBX, HSH, ⟨HGN.out gn rfl⟩, HSO⟩
            case round =>
              obtain ⟨m, mv, rfl, HMV, HM, HBM, HSM, HGM, HSN⟩ := hrel
              have y2 : wr.cell? ⟨gn, i * 3 + 2, none⟩ = some (.slice Ax x.2.links.length cx) := (cell_heap HGM.out HCN.out _).trans HX2.out
              by_cases hmt : m < x.2.links.length
              · obtain ⟨gl, cs, rfl, hgl, hgl2, hcs, hsz⟩ := spoil_row HXR.out rfl HSM.out hmt
                have f1 : wr.frozen? ⟨gl, m * 3 + 1, none⟩ = false := blk_frozen hcs _
                obtain ⟨u0, hu0⟩ : ∃ u0, wr.cell? ⟨gl, m * 3 + 1, none⟩ = some u0 := ⟨cs[m * 3 + 1]'(by omega), (blk_cell hcs _).trans (Array.getElem?_eq_getElem _)⟩
                have HCS := Aside0.mk hcs
                have HGL := Aside0.mk (And.intro hgl hgl2)
                have HNE : Aside0 (gn ≠ gl) := ⟨by
                  rintro rfl
                  have h1 := (HGM.out).trans HCN.out
                  rw [hcs] at h1
                  cases h1⟩
                have p1 : decide (mv < (x.2.links.length : Int)) = true := decide_eq_true (by have := HMV.out; omega)
                have p2 : (mv < (x.2.links.length : Int)) = True := eq_true (by have := HMV.out; omega)
                have p3 : (0 : Int) ≤ mv := by have := HMV.out; omega
                have p4 : mv.toNat = m := by have := HMV.out; omega
                have w2_ : wrap64 (mv + 1) = mv + 1 := wrap_ok9 _ (by omega) (by have := HMV.out; have := HXL.out; unfold bound at this; omega)
                have HMT := Aside0.mk hmt
                clear hcs hgl hgl2 hsz hmt
                go_wp2
                clear p4
                go_roundg (gk - 1)
                case measure => have := HM.out; have := HMT.out; omega
                case rel => exact ⟨m + 1, mv + 1, by first | rfl | rw [w2_], ⟨by have := HMV.out; omega⟩, ⟨by have := HMT.out; omega, by have := HM.out; omega⟩, ⟨HBM.out.setCell HGL.out.1 _⟩, ⟨HSM.out.set HCS.out _ _⟩, ⟨(Below.heap_setCell _ _ _ _ HNE.out).trans HGM.out⟩, ⟨HSN.out.trans (SameOn.setCell _ _ _ (fun h => by have h1 := HGL.out.2; have h2 : w2.heap.size ≤ gl := h; omega))⟩⟩
              · have p1 : decide (mv < (x.2.links.length : Int)) = false := decide_eq_false (by have := HMV.out; omega)
                have p2 : (mv < (x.2.links.length : Int)) = False := eq_false (by have := HMV.out; omega)
                clear hmt
                go_wp2
                clear q4
                go_roundg (gk0 - 1)
                case measure => have := HI.out; have := HLT.out; have := HGK.out; omega
                case rel => exact ⟨i + 1, iv + 1, by first | rfl | rw [w1_], ⟨by have := HIV.out; omega⟩, ⟨by have := HLT.out; omega, by have := HI.out; have := HGK.out; omega⟩, HBM, HSM, ⟨fun b hb => by cases hb; exact HGM.out⟩, HSN⟩
          · have q1 : decide (iv < (l.length : Int)) = false := decide_eq_false (by have := HIV.out; omega)
            clear hlt
            go_wp2_with (go_at_call 14; refine (lives_calls _ (lay_below HL.out HBX.out)).mono ?_; rintro e_ wl ⟨rfl, hbl⟩; have HBl := Aside0.mk (HBX.out.trans (hbl.mono HBX.out.size)); clear hbl)
            go_ret
            exact ⟨rfl, HBl.out⟩
end
end Go.Proofs.YthifdofdoeaemaaGreatDoor.Wk
end
