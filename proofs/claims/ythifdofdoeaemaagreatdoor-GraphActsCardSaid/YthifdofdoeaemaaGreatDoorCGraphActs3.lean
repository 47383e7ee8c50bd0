-- Texts that the row GraphActs leans on, joined by wip/tools/mkclaim.py: GRows, GMayG, GPLoadG, GLoad, GLoadG, Wk0, Wk1, Wk2, Wk3, Wk4, Wk5, GRef, GRefR, GRNode, GRReach, GRNodes, GRObj, GRReach2, GSame2, GAlike, GRMine, GRErase, GPSwept, GRLink
import Derived.Test.YthifdofdoeaemaaGreatDoorCGraphActs2
import Derived.Test.YthifdofdoeaemaaGreatDoorProg
import Derived.Below
import Derived.Deep.Draws
import Derived.Deep.AppendLies
import Derived.Maps.AppendAt
import Derived.OwnWalk
import Derived.Laws.BytesArg
import Derived.Laws.MakeOwn
import Derived.Laws.OwnMore
import Derived.Deep.OwnRows
import Derived.Tactics
import Derived.Lib.ConvBytes
import Derived.Laws.Slices
import Derived.WalkKit
import Derived.KernelRfl
import Derived.RowKit3
import Derived.Deep.LoopGhost
import Derived.Deep.QuietTactic
import Derived.BigQuiet
import Derived.WideLaws
import Derived.Deep.DeepCutAuto
import Derived.Deep.CutBlock
import Derived.Deep.RegionHeld3
import Derived.Laws.Rows
import Derived.Lib.AppendStr
import Derived.ArgAppend
import Derived.Laws.IdiomCopy
import Derived.OrdersHeld
import Derived.Laws.BitsLemmas
import Derived.RowKit
import Derived.WalkSpells
import Derived.Sort.LoopGhostIn
import Derived.Sort.CutIn
import Derived.Shelf.Abstract
import Derived.Shelf.RegionOpen
import Derived.OwnWalkIn
import Derived.TacticsInMore
import Derived.LoopNIn
import Derived.LoopIn
import Derived.Laws.Cover1
section
namespace Go.Proofs.YthifdofdoeaemaaGreatDoor.Wk
open Go.RowKit Go.Proofs.YthifdofdoeaemaaGreatDoorW.PrintWords Go.Proofs.YthifdofdoeaemaaGreatDoorW.PrintLast Go.Proofs.YthifdofdoeaemaaGreatDoorW.PrintMore
attribute [local go_sem] max2_int min2_int max_two min_two max_three min_three max_four min_four
set_option linter.unusedVariables false
set_option linter.unusedSimpArgs false
section
open Go.RowKit Go.Lib Go.Maps Go.Proofs.YthifdofdoeaemaaGreatDoorQ
def LinksR (W : World) (A : Option Addr) (l : List Lk) : Prop := 0 < l.length → ∃ b o, A = some ⟨b, o, none⟩ ∧ b < W.heap.size ∧ ∀ j y, l[j]? = some y → W.cell? ⟨b, o + j * 3, none⟩ = some (.string y.1) ∧ W.cell? ⟨b, o + j * 3 + 1, none⟩ = some (.int .i64 y.2.1) ∧ W.cell? ⟨b, o + j * 3 + 2, none⟩ = some (.string y.2.2)
theorem LinksR.below {W W' : World} {A : Option Addr} {l : List Lk} (h : LinksR W A l) (hb : Below W.heap.size W W') : LinksR W' A l := fun h0 => by
  obtain ⟨b, o, hA, hl, hc⟩ := h h0
  refine ⟨b, o, hA, Nat.lt_of_lt_of_le hl hb.size, fun j y hy => ?_⟩
  obtain ⟨h1, h2, h3⟩ := hc j y hy
  exact ⟨(hb.cell (p := ⟨b, o + j * 3, none⟩) hl).trans h1, (hb.cell (p := ⟨b, o + j * 3 + 1, none⟩) hl).trans h2, (hb.cell (p := ⟨b, o + j * 3 + 2, none⟩) hl).trans h3⟩
theorem LinksR.at {W : World} {A : Option Addr} {l : List Lk} (h : LinksR W A l) {j : Nat} {y : Lk} (hy : l[j]? = some y) : ∃ b o, A = some ⟨b, o, none⟩ ∧ b < W.heap.size ∧ W.cell? ⟨b, o + j * 3, none⟩ = some (.string y.1) ∧ W.cell? ⟨b, o + j * 3 + 1, none⟩ = some (.int .i64 y.2.1) ∧ W.cell? ⟨b, o + j * 3 + 2, none⟩ = some (.string y.2.2) := by
  obtain ⟨b, o, hA, hl, hc⟩ := h (Nat.lt_of_le_of_lt (Nat.zero_le _) (List.getElem?_eq_some_iff.1 hy).1)
  exact ⟨b, o, hA, hl, hc j y hy⟩
theorem links_own {W : World} {base n c : Nat} {A : Option Addr} {l : List Lk} (h : W.ownsRow base 42 3 (.slice A n c) n (cells3 l)) (hn : n = l.length) : LinksR W A l := fun h0 => by
  obtain ⟨y, hy⟩ : ∃ y, l[0]? = some y := ⟨_, List.getElem?_eq_getElem h0⟩
  obtain ⟨g, hA, -, hr⟩ := link_at h hn hy
  refine ⟨g, 0, hA, World.block_lt_of_cell? W _ (hr 0 _ rfl), fun j z hz => ?_⟩
  obtain ⟨g', hA', -, hr'⟩ := link_at h hn hz
  obtain rfl : g = g' := by rw [hA] at hA'; simpa using hA'
  rw [Nat.zero_add]
  exact ⟨hr' 0 _ rfl, hr' 1 _ rfl, hr' 2 _ rfl⟩
def NodesR (W : World) (A : Option Addr) (l : List (Int × GO)) : Prop := 0 < l.length → ∃ b o, A = some ⟨b, o, none⟩ ∧ b < W.heap.size ∧ ∀ j x, l[j]? = some x → ∃ Ax cx, W.cell? ⟨b, o + j * 3, none⟩ = some (.int .i64 x.1) ∧ W.cell? ⟨b, o + j * 3 + 1, none⟩ = some (.int .i64 x.2.kind) ∧ W.cell? ⟨b, o + j * 3 + 2, none⟩ = some (.slice Ax x.2.links.length cx) ∧ x.2.links.length ≤ cx ∧ LinksR W Ax x.2.links
theorem NodesR.at {W : World} {A : Option Addr} {l : List (Int × GO)} (h : NodesR W A l) {j : Nat} {x : Int × GO} (hx : l[j]? = some x) : ∃ b o Ax cx, A = some ⟨b, o, none⟩ ∧ b < W.heap.size ∧ W.cell? ⟨b, o + j * 3, none⟩ = some (.int .i64 x.1) ∧ W.cell? ⟨b, o + j * 3 + 1, none⟩ = some (.int .i64 x.2.kind) ∧ W.cell? ⟨b, o + j * 3 + 2, none⟩ = some (.slice Ax x.2.links.length cx) ∧ x.2.links.length ≤ cx ∧ LinksR W Ax x.2.links := by
  obtain ⟨b, o, hA, hl, hc⟩ := h (Nat.lt_of_le_of_lt (Nat.zero_le _) (List.getElem?_eq_some_iff.1 hx).1)
  obtain ⟨Ax, cx, h1⟩ := hc j x hx
  exact ⟨b, o, Ax, cx, hA, hl, h1⟩
theorem NodesR.below {W W' : World} {A : Option Addr} {l : List (Int × GO)} (h : NodesR W A l) (hb : Below W.heap.size W W') : NodesR W' A l := fun h0 => by
  obtain ⟨b, o, hA, hl, hc⟩ := h h0
  refine ⟨b, o, hA, Nat.lt_of_lt_of_le hl hb.size, fun j y hy => ?_⟩
  obtain ⟨Ax, cx, h1, h2, h3, h4, h5⟩ := hc j y hy
  exact ⟨Ax, cx, (hb.cell (p := ⟨b, o + j * 3, none⟩) hl).trans h1, (hb.cell (p := ⟨b, o + j * 3 + 1, none⟩) hl).trans h2, (hb.cell (p := ⟨b, o + j * 3 + 2, none⟩) hl).trans h3, h4, h5.below hb⟩
theorem row_cap {W : World} {base n size c : Nat} {e : TypeId} {A : Option Addr} {xs : List Value} (h : W.ownsRow base e size (.slice A n c) n xs) : n ≤ c := by
  rcases h.2 with ⟨h1, h2⟩ | ⟨g, cap, cur, h1, -, -, h2, -⟩
  · omega
  · cases h1
    exact h2
theorem nodes_own {W : World} {base : Nat} {A : Option Addr} {k : Nat} {l : List (Int × GO)} (h : NodesAt W base (.slice A l.length k) l) : NodesR W A l := fun h0 => by
  obtain ⟨y, hy⟩ : ∃ y, l[0]? = some y := ⟨_, List.getElem?_eq_getElem h0⟩
  obtain ⟨g, k', -, -, e, hg, -⟩ := node_row h hy
  obtain ⟨rfl, rfl⟩ : A = some ⟨g, 0, none⟩ ∧ k = k' := by simpa using e
  refine ⟨g, 0, rfl, hg, fun j x hx => ?_⟩
  obtain ⟨g', k2, Ax, cx, e2, -, h1, h2, h3, h4⟩ := node_row h hx
  obtain ⟨rfl, -⟩ : g = g' ∧ k = k2 := by simpa using e2
  rw [Nat.zero_add]
  exact ⟨Ax, cx, h1, h2, h3, row_cap h4, links_own h4 rfl⟩
end
end Go.Proofs.YthifdofdoeaemaaGreatDoor.Wk
end
section
namespace Go.Proofs.YthifdofdoeaemaaGreatDoor.Wk
open Go.RowKit Go.Proofs.YthifdofdoeaemaaGreatDoorW.PrintWords Go.Proofs.YthifdofdoeaemaaGreatDoorW.PrintLast Go.Proofs.YthifdofdoeaemaaGreatDoorW.PrintMore
attribute [local go_sem] max2_int min2_int max_two min_two max_three min_three max_four min_four
set_option linter.unusedVariables false
set_option linter.unusedSimpArgs false
section
open Go.RowKit Go.Lib Go.Maps Go.Proofs.YthifdofdoeaemaaGreatDoorQ
attribute [local go_sem] Oper.semAt_some
def MayP (kind : Int) (l : List Lk) : Prop := (kind = 1 ∨ kind = 2 ∧ l = []) ∧ (∀ k ∈ l, LkMay k) ∧ Names l
def MayAns (kind : Int) (l : List Lk) (w : World) (e : Ending) (w' : World) : Prop := ∃ b : Bool, e = .returned (.bool b) ∧ (b = true ↔ MayP kind l) ∧ Below w.heap.size w w'
end
end Go.Proofs.YthifdofdoeaemaaGreatDoor.Wk
end
section
namespace Go.Proofs.YthifdofdoeaemaaGreatDoor.Wk
open Go.RowKit Go.Proofs.YthifdofdoeaemaaGreatDoorW.PrintWords Go.Proofs.YthifdofdoeaemaaGreatDoorW.PrintLast Go.Proofs.YthifdofdoeaemaaGreatDoorW.PrintMore
attribute [local go_sem] max2_int min2_int max_two min_two max_three min_three max_four min_four
set_option linter.unusedVariables false
set_option linter.unusedSimpArgs false
section
open Go.RowKit Go.Lib Go.Maps
def grL (l : List (Int × GO)) : GS := ⟨0, 0, l⟩
structure LoadP (next : Int) (l : List (Int × GO)) : Prop where
  some_ : 0 < l.length
  size : l.length ≤ 128
  head : ∀ x, l[0]? = some x → x.1 = 1 ∧ x.2.kind = 1
  next_ : 1 < next
  may : ∀ x ∈ l, MayP x.2.kind x.2.links
  asc : Asc l
  below : ∀ x ∈ l, x.1 < next
  closed : Closed (grL l)
  links : sumO lenO l ≤ 256
  rch : ∀ x ∈ l, Rch (grL l) x.1
  ones : ∀ x ∈ l, x.1 = 1 ∨ x.2.kind ≠ 1 ∨ sumO (cntO x.1) l = 1
def ldO (l : List (Int × GO)) (x : Int × GO) : Int × GO := (x.1, ⟨x.2.kind, x.2.links, ((sumO (cntO x.1) l : Nat) : Int), 0⟩)
def ldG (next : Int) (l : List (Int × GO)) : GS := ⟨next, ((sumO lenO l : Nat) : Int), l.map (ldO l)⟩
structure WSt (next : Int) (l : List (Int × GO)) (i j : Nat) (H : GS) : Prop where
  asc : Asc H.objs
  next : H.next = next
  shape : shape H.objs = upto l i j
  leads : ∀ x ∈ H.objs, x.2.leads = sumO (cntO x.1) H.objs
  count : H.count = sumO lenO H.objs
end
end Go.Proofs.YthifdofdoeaemaaGreatDoor.Wk
end
section
namespace Go.Proofs.YthifdofdoeaemaaGreatDoor.Wk
open Go.RowKit Go.Proofs.YthifdofdoeaemaaGreatDoorW.PrintWords Go.Proofs.YthifdofdoeaemaaGreatDoorW.PrintLast Go.Proofs.YthifdofdoeaemaaGreatDoorW.PrintMore
attribute [local go_sem] max2_int min2_int max_two min_two max_three min_three max_four min_four
set_option linter.unusedVariables false
set_option linter.unusedSimpArgs false
section
open Go.RowKit Go.Lib Go.Maps Go.Proofs.YthifdofdoeaemaaGreatDoorQ
attribute [local go_sem] Oper.semAt_some
end
end Go.Proofs.YthifdofdoeaemaaGreatDoor.Wk
end
section
namespace Go.Proofs.YthifdofdoeaemaaGreatDoor.Wk
open Go.RowKit Go.Proofs.YthifdofdoeaemaaGreatDoorW.PrintWords Go.Proofs.YthifdofdoeaemaaGreatDoorW.PrintLast Go.Proofs.YthifdofdoeaemaaGreatDoorW.PrintMore
attribute [local go_sem] max2_int min2_int max_two min_two max_three min_three max_four min_four
set_option linter.unusedVariables false
set_option linter.unusedSimpArgs false
section
open Go.RowKit Go.Lib Go.Maps Go.Proofs.YthifdofdoeaemaaGreatDoorQ
attribute [local go_sem] Oper.semAt_some
def LdAns (next : Int) (l : List (Int × GO)) (w : World) (e : Ending) (w' : World) : Prop :=
  (LoadP next l ∧ ∃ B : GB, e = .returned (.tuple #[.pointer (some ⟨B.g, 0, none⟩), .int .i64 0]) ∧ GraphAt w' B (ldG next l) ∧ (∀ q, foot B (ldG next l) q → w.heap.size ≤ q) ∧ Below w.heap.size w w') ∨
  (¬ LoadP next l ∧ e = .returned (.tuple #[.pointer none, .int .i64 5]) ∧ Below w.heap.size w w')
end
end Go.Proofs.YthifdofdoeaemaaGreatDoor.Wk
end
section
namespace Go.Proofs.YthifdofdoeaemaaGreatDoor.Wk
open Go.RowKit Go.Proofs.YthifdofdoeaemaaGreatDoorW.PrintWords Go.Proofs.YthifdofdoeaemaaGreatDoorW.PrintLast Go.Proofs.YthifdofdoeaemaaGreatDoorW.PrintMore
attribute [local go_sem] max2_int min2_int max_two min_two max_three min_three max_four min_four
set_option linter.unusedVariables false
set_option linter.unusedSimpArgs false
def errW : Option Int → Value
  | none => .nilIface
  | some c => .iface 0 (.int .i64 c)
theorem errW_none : errW none = .nilIface := rfl
theorem errW_some (c : Int) : errW (some c) = .iface 0 (.int .i64 c) := rfl
theorem info9 : (Tryz.prog.info? 9).map (fun i => (i.zero, i.size, i.bytes)) = some (some (.string ⟨#[]⟩), 1, 16) := by kernel_rfl
end Go.Proofs.YthifdofdoeaemaaGreatDoor.Wk
end
section
namespace Go.Proofs.YthifdofdoeaemaaGreatDoor.Wk
open Go.RowKit Go.Proofs.YthifdofdoeaemaaGreatDoorW.PrintWords Go.Proofs.YthifdofdoeaemaaGreatDoorW.PrintLast Go.Proofs.YthifdofdoeaemaaGreatDoorW.PrintMore
attribute [local go_sem] max2_int min2_int max_two min_two max_three min_three max_four min_four
set_option linter.unusedVariables false
set_option linter.unusedSimpArgs false
mutual
def slabvaultref09_Name.j0 : Nat → ByteArray → Bool → Option (Bool)
  | 0, _, _ => none
  | k + 1, x0, x19 => if x19 = true then (some false) else (slabvaultref09_Name.l0 k x0 0)
def slabvaultref09_Name.l0 : Nat → ByteArray → Int → Option (Bool)
  | 0, _, _ => none
  | k + 1, x0, x3 => if x3 < (x0.size : Int) then (if 0 ≤ x3 then (if (bt x0 x3) = 0 then (some false) else (if (bt x0 x3) = 47 then (some false) else (slabvaultref09_Name.l0 k x0 (wrap64 (x3 + 1))))) else (none)) else (some true)
end
def slabvaultref09_Name.f (k : Nat) (a0 : ByteArray) : Option (Bool) := if (a0.size : Int) < 1 then (slabvaultref09_Name.j0 k a0 true) else (if (a0.size : Int) > 64 then (slabvaultref09_Name.j0 k a0 true) else (if a0.toList = ([46] : List UInt8) then (slabvaultref09_Name.j0 k a0 true) else (slabvaultref09_Name.j0 k a0 (a0.toList == ([46, 46] : List UInt8)))))
set_option maxHeartbeats 8000000 in
set_option maxRecDepth 100000 in
theorem slabvaultref09_Name.calls (k : Nat) (a0 : ByteArray) (r : Bool) (w : World) (h : slabvaultref09_Name.f k a0 = some r) :
    Calls Tryz.prog 82 #[.string a0] w fun e w' => e = .returned (.bool r) ∧ Drawn0 w w' := by
  have H : (if (a0.size : Int) < 1 then (slabvaultref09_Name.j0 k a0 true) else (if (a0.size : Int) > 64 then (slabvaultref09_Name.j0 k a0 true) else (if a0.toList = ([46] : List UInt8) then (slabvaultref09_Name.j0 k a0 true) else (slabvaultref09_Name.j0 k a0 (a0.toList == ([46, 46] : List UInt8)))))) = some r := h
  clear h
  have HC2 := Aside0.mk H
  clear H
  go_enter Tryz.func82, Tryz.ntmps82
  go_upto_region 1 with (fail)
  go_cut [19] (fun v19 wc => ∃ (kq : Nat) (x19_1 : Bool), v19 = .bool x19_1 ∧ Aside0 (slabvaultref09_Name.j0 kq a0 x19_1 = some r) ∧ Aside0 (kq ≤ k) ∧ Drawn0 w wc)
  case first =>
    have H := HC2.out
    clear HC2
    by_cases c3 : (a0.size : Int) < 1
    · rw [if_pos c3] at H
      have c3b0 : decide ((a0.size : Int) < 1) = true := decide_eq_true c3
      have c3b1 : decide (a0.size < 1) = true := decide_eq_true (by omega)
      clear c3
      (first | rw [c3b0] | (simp only [i64_w, i32_w]; rw [c3b0]) | skip)
      have H' := Aside0.mk H
      clear H
      go_wp2
      go_meet
      case rel => exact ⟨_, (true), (by first | rfl | (simp; done) | (simp [*]; done)), H', ⟨by first | omega | exact Nat.le_refl _⟩, by repeat (first | exact Drawn0.refl _ | apply Drawn0.step)⟩
    · rw [if_neg c3] at H
      have c3b0 : decide ((a0.size : Int) < 1) = false := decide_eq_false c3
      have c3b1 : decide (a0.size < 1) = false := decide_eq_false (by omega)
      clear c3
      (first | rw [c3b0] | (simp only [i64_w, i32_w]; rw [c3b0]) | skip)
      by_cases c4 : (a0.size : Int) > 64
      · rw [if_pos c4] at H
        have c4b0 : decide (64 < (a0.size : Int)) = true := decide_eq_true c4
        have c4b1 : decide (64 < a0.size) = true := decide_eq_true (by omega)
        clear c4
        have H' := Aside0.mk H
        clear H
        go_wp2
        go_meet
        case rel => exact ⟨_, (true), (by first | rfl | (simp; done) | (simp [*]; done)), H', ⟨by first | omega | exact Nat.le_refl _⟩, by repeat (first | exact Drawn0.refl _ | apply Drawn0.step)⟩
      · rw [if_neg c4] at H
        have c4b0 : decide (64 < (a0.size : Int)) = false := decide_eq_false c4
        have c4b1 : decide (64 < a0.size) = false := decide_eq_false (by omega)
        clear c4
        by_cases c5 : a0.toList = ([46] : List UInt8)
        · rw [if_pos c5] at H
          have c5b0 : (a0.toList == ([46] : List UInt8)) = true := beq_iff_eq.mpr c5
          have c5b1 : (a0.toList != ([46] : List UInt8)) = false := bne_eq_false_iff_eq.mpr c5
          clear c5
          have H' := Aside0.mk H
          clear H
          go_wp2
          go_meet
          case rel => exact ⟨_, (true), (by first | rfl | (simp; done) | (simp [*]; done)), H', ⟨by first | omega | exact Nat.le_refl _⟩, by repeat (first | exact Drawn0.refl _ | apply Drawn0.step)⟩
        · rw [if_neg c5] at H
          have c5b0 : (a0.toList == ([46] : List UInt8)) = false := beq_eq_false_iff_ne.mpr c5
          have c5b1 : (a0.toList != ([46] : List UInt8)) = true := bne_iff_ne.mpr c5
          have H' := Aside0.mk H
          clear H
          go_wp2
          go_meet
          case rel => exact ⟨_, ((a0.toList == ([46, 46] : List UInt8))), (by first | rfl | (simp; done) | (simp [*]; done)), H', ⟨by first | omega | exact Nat.le_refl _⟩, by repeat (first | exact Drawn0.refl _ | apply Drawn0.step)⟩
  case rest =>
    clear HC2
    try clear p2
    try clear c3
    try clear c3b0
    try clear c3b1
    try clear c4
    try clear c4b0
    try clear c4b1
    try clear c5
    try clear c5b0
    try clear c5b1
    obtain ⟨kq, x19_1, rfl, HA, HJ1, ⟨mc1, rfl⟩⟩ := hcut
    cases kq with
    | zero => exact absurd HA.out (by simp [slabvaultref09_Name.j0])
    | succ kj1 =>
      have H := HA.out
      clear HA
      simp only [slabvaultref09_Name.j0] at H
      by_cases c6 : x19_1 = true
      · subst c6
        have H1 : (some false) = some r := by rw [if_pos rfl] at H; exact H
        clear H
        have H := H1
        clear H1
        obtain rfl := Option.some.inj H
        go_wp2
        go_ret
        exact ⟨by first | rfl | (simp; done) | (simp [*]; done), by repeat (first | exact Drawn0.refl _ | apply Drawn0.step)⟩
      · replace c6 := Bool.eq_false_iff.mpr c6
        subst c6
        have H1 : (slabvaultref09_Name.l0 kj1 a0 0) = some r := by rw [if_neg (show ¬ (false = true) by decide)] at H; exact H
        clear H
        have H := H1
        clear H1
        have H' := Aside0.mk H
        clear H
        go_wp2
        go_loopg [3] kj1 (fun kq v3 w' => ∃ (x3_2 : Int), v3 = .int .i64 x3_2 ∧ Aside0 (slabvaultref09_Name.l0 kq a0 x3_2 = some r) ∧ Aside0 (kq ≤ kj1) ∧ Drawn0 w w')
        case atStart => exact ⟨(0), (by first | rfl | (simp; done) | (simp [*]; done)), H', ⟨Nat.le_refl _⟩, by repeat (first | exact Drawn0.refl _ | apply Drawn0.step)⟩
        case round =>
          clear H'
          try clear c1
          try clear p2
          try clear c3
          try clear c3b0
          try clear c3b1
          try clear c4
          try clear c4b0
          try clear c4b1
          try clear c5
          try clear c5b0
          try clear c5b1
          try clear c6
          try clear p2
          obtain ⟨x3_2, rfl, HA, HK2, ⟨m2, rfl⟩⟩ := hrel
          cases gk with
          | zero => exact absurd HA.out (by simp [slabvaultref09_Name.l0])
          | succ k2 =>
            have H := HA.out
            clear HA
            simp only [slabvaultref09_Name.l0] at H
            by_cases c7 : x3_2 < (a0.size : Int)
            · rw [if_pos c7] at H
              have c7b0 : decide (x3_2 < (a0.size : Int)) = true := decide_eq_true c7
              clear c7
              by_cases c8 : 0 ≤ x3_2
              · rw [if_pos c8] at H
                have c8b0 : decide (0 ≤ x3_2) = true := decide_eq_true c8
                clear c8
                by_cases c10 : (bt a0 x3_2) = 0
                · rw [if_pos c10] at H
                  have c10b0 : ((bt a0 x3_2) == 0) = true := beq_iff_eq.mpr c10
                  have c10b1 : ((bt a0 x3_2) != 0) = false := bne_eq_false_iff_eq.mpr c10
                  clear c10
                  obtain rfl := Option.some.inj H
                  have p9 : 0 ≤ (x3_2 : Int) := of_decide_eq_true (by first | (with_reducible assumption) | assumption)
                  have q9 : x3_2 < (a0.size : Int) := of_decide_eq_true (by first | (with_reducible assumption) | assumption)
                  have hx9 := bt_at a0 x3_2
                  replace p9 := eq_true p9
                  replace q9 := eq_true q9
                  go_wp2
                  go_ret
                  exact ⟨by first | rfl | (simp; done) | (simp [*]; done), by repeat (first | exact Drawn0.refl _ | apply Drawn0.step)⟩
                · rw [if_neg c10] at H
                  have c10b0 : ((bt a0 x3_2) == 0) = false := beq_eq_false_iff_ne.mpr c10
                  have c10b1 : ((bt a0 x3_2) != 0) = true := bne_iff_ne.mpr c10
                  by_cases c12 : (bt a0 x3_2) = 47
                  · rw [if_pos c12] at H
                    have c12b0 : ((bt a0 x3_2) == 47) = true := beq_iff_eq.mpr c12
                    have c12b1 : ((bt a0 x3_2) != 47) = false := bne_eq_false_iff_eq.mpr c12
                    clear c12
                    obtain rfl := Option.some.inj H
                    have p9 : 0 ≤ (x3_2 : Int) := of_decide_eq_true (by first | (with_reducible assumption) | assumption)
                    have q9 : x3_2 < (a0.size : Int) := of_decide_eq_true (by first | (with_reducible assumption) | assumption)
                    have hx9 := bt_at a0 x3_2
                    replace p9 := eq_true p9
                    replace q9 := eq_true q9
                    have p11 : 0 ≤ (x3_2 : Int) := of_decide_eq_true (by first | (with_reducible assumption) | assumption)
                    have q11 : x3_2 < (a0.size : Int) := of_decide_eq_true (by first | (with_reducible assumption) | assumption)
                    have hx11 := bt_at a0 x3_2
                    replace p11 := eq_true p11
                    replace q11 := eq_true q11
                    go_wp2
                    go_ret
                    exact ⟨by first | rfl | (simp; done) | (simp [*]; done), by repeat (first | exact Drawn0.refl _ | apply Drawn0.step)⟩
                  · rw [if_neg c12] at H
                    have c12b0 : ((bt a0 x3_2) == 47) = false := beq_eq_false_iff_ne.mpr c12
                    have c12b1 : ((bt a0 x3_2) != 47) = true := bne_iff_ne.mpr c12
                    have H' := Aside0.mk H
                    clear H
                    have p9 : 0 ≤ (x3_2 : Int) := of_decide_eq_true (by first | (with_reducible assumption) | assumption)
                    have q9 : x3_2 < (a0.size : Int) := of_decide_eq_true (by first | (with_reducible assumption) | assumption)
                    have hx9 := bt_at a0 x3_2
                    replace p9 := eq_true p9
                    replace q9 := eq_true q9
                    have p11 : 0 ≤ (x3_2 : Int) := of_decide_eq_true (by first | (with_reducible assumption) | assumption)
                    have q11 : x3_2 < (a0.size : Int) := of_decide_eq_true (by first | (with_reducible assumption) | assumption)
                    have hx11 := bt_at a0 x3_2
                    replace p11 := eq_true p11
                    replace q11 := eq_true q11
                    go_wp2
                    go_roundg k2
                    case measure => have := HJ1.out; have := HK2.out; omega
                    case rel => exact ⟨(wrap64 (x3_2 + 1)), (by first | rfl | (simp; done) | (simp [*]; done)), H', ⟨by have := HJ1.out; have := HK2.out; omega⟩, by repeat (first | exact Drawn0.refl _ | apply Drawn0.step)⟩
              · rw [if_neg c8] at H
                exact absurd H (by simp)
            · rw [if_neg c7] at H
              have c7b0 : decide (x3_2 < (a0.size : Int)) = false := decide_eq_false c7
              clear c7
              obtain rfl := Option.some.inj H
              go_wp2
              go_ret
              exact ⟨by first | rfl | (simp; done) | (simp [*]; done), by repeat (first | exact Drawn0.refl _ | apply Drawn0.step)⟩
def slabvaultref09_Name.Pure : Prop := ∀ (a0 : ByteArray), a0.size ≤ 140737488351232 → ∃ k, slabvaultref09_Name.f k a0 = some true
end Go.Proofs.YthifdofdoeaemaaGreatDoor.Wk
end
section
namespace Go.Proofs.YthifdofdoeaemaaGreatDoor.Wk
open Go.RowKit Go.Proofs.YthifdofdoeaemaaGreatDoorW.PrintWords Go.Proofs.YthifdofdoeaemaaGreatDoorW.PrintLast Go.Proofs.YthifdofdoeaemaaGreatDoorW.PrintMore
attribute [local go_sem] max2_int min2_int max_two min_two max_three min_three max_four min_four
set_option linter.unusedVariables false
set_option linter.unusedSimpArgs false
def slabvaultref17_parts.l0 : Nat → ByteArray → List ByteArray → Int → Int → Option (List ByteArray)
  | 0, _, _, _, _ => none
  | k + 1, x0, x3, x4, x5 => if x5 ≤ (x0.size : Int) then (if x5 = (x0.size : Int) then (if 0 ≤ x4 then (if x4 ≤ x5 then (if x3.length < 8796093022208 then (slabvaultref17_parts.l0 k x0 (x3 ++ [x0.extract (x4 : Int).toNat (x5 : Int).toNat]) (wrap64 (x5 + 1)) (wrap64 (x5 + 1))) else (none)) else (none)) else (none)) else (if 0 ≤ x5 then (if x5 < (x0.size : Int) then (if (bt x0 x5) = 47 then (if 0 ≤ x4 then (if x4 ≤ x5 then (if x3.length < 8796093022208 then (slabvaultref17_parts.l0 k x0 (x3 ++ [x0.extract (x4 : Int).toNat (x5 : Int).toNat]) (wrap64 (x5 + 1)) (wrap64 (x5 + 1))) else (none)) else (none)) else (none)) else (slabvaultref17_parts.l0 k x0 x3 x4 (wrap64 (x5 + 1)))) else (none)) else (none))) else (some x3)
def slabvaultref17_parts.f (k : Nat) (a0 : ByteArray) : Option (List ByteArray) := slabvaultref17_parts.l0 k a0 ([] : List ByteArray) 1 1
set_option maxHeartbeats 8000000 in
set_option maxRecDepth 100000 in
theorem slabvaultref17_parts.calls (k : Nat) (a0 : ByteArray) (r : List ByteArray) (w : World) (h : slabvaultref17_parts.f k a0 = some r) :
    Calls Tryz.prog 114 #[.string a0] w fun e w' => ∃ v0_ : Value, e = .returned (v0_) ∧ Kd.R Kd.string 9 w' w.heap.size (fun _ => True) v0_ r ∧ Below w.heap.size w w' := by
  have HB := Aside0.mk (Below.refl w.heap.size w)
  have H : (slabvaultref17_parts.l0 k a0 ([] : List ByteArray) 1 1) = some r := h
  clear h
  have H' := Aside0.mk H
  clear H
  go_enter Tryz.func114, Tryz.ntmps114
  go_wp2
  go_loopg [3, 4, 5] k (fun kq v3 v4 v5 w' => ∃ (x3_1 : List ByteArray) (x4_1 : Int) (x5_1 : Int), v4 = .int .i64 x4_1 ∧ v5 = .int .i64 x5_1 ∧ Aside0 (slabvaultref17_parts.l0 kq a0 x3_1 x4_1 x5_1 = some r) ∧ Aside0 (kq ≤ k) ∧ Aside0 (Kd.R Kd.string 9 w' w.heap.size (fun _ => True) v3 x3_1) ∧ Aside0 (Below w.heap.size w w'))
  case atStart => exact ⟨(([] : List ByteArray)), (1), (1), (by first | rfl | (simp; done) | (simp [*]; done)), (by first | rfl | (simp; done) | (simp [*]; done)), H', ⟨Nat.le_refl _⟩, ⟨by first | exact Kd.R_nil _ _ _ _ _ | exact Kd.N_nil _ _ _ _ _ | exact Kd.V_nil _ _ _ _ _ | exact Kd.Q_nil _ _ _ _ _ | exact Kd.S_nil _ _ _ _ _⟩, ⟨by repeat (first | (with_reducible first | exact HB.out | apply below_alloc | apply pw_below_drewN | apply below_drew1) | exact HB.out)⟩⟩
  case round =>
    clear H'
    try clear c1
    obtain ⟨x3_1, x4_1, x5_1, rfl, rfl, HA, HK1, HO_3, HB⟩ := hrel
    cases gk with
    | zero => exact absurd HA.out (by simp [slabvaultref17_parts.l0])
    | succ k1 =>
      have H := HA.out
      clear HA
      simp only [slabvaultref17_parts.l0] at H
      by_cases c2 : x5_1 ≤ (a0.size : Int)
      · rw [if_pos c2] at H
        have c2b0 : decide (x5_1 ≤ (a0.size : Int)) = true := decide_eq_true c2
        clear c2
        by_cases c3 : x5_1 = (a0.size : Int)
        · rw [if_pos c3] at H
          have c3b0 : (x5_1 == (a0.size : Int)) = true := beq_iff_eq.mpr c3
          have c3b1 : (x5_1 != (a0.size : Int)) = false := bne_eq_false_iff_eq.mpr c3
          clear c3
          by_cases c4 : 0 ≤ x4_1
          · rw [if_pos c4] at H
            have c4b0 := eq_true c4
            have c4b1 : decide (0 ≤ x4_1) = true := decide_eq_true c4
            clear c4
            by_cases c5 : x4_1 ≤ x5_1
            · rw [if_pos c5] at H
              have c5b0 := eq_true c5
              have c5b1 : decide (x4_1 ≤ x5_1) = true := decide_eq_true c5
              clear c5
              have c6b0 := eq_true (of_decide_eq_true (by first | (with_reducible assumption) | assumption) : x5_1 ≤ (a0.size : Int))
              by_cases c7 : x3_1.length < 8796093022208
              · rw [if_pos c7] at H
                have LMc7 := Aside0.mk c7
                clear c7
                obtain ⟨y101, hy101⟩ : ∃ y_ : List ByteArray, y_ = (x3_1 ++ [a0.extract (x4_1 : Int).toNat (x5_1 : Int).toNat]) := ⟨_, rfl⟩
                replace H : (slabvaultref17_parts.l0 k1 a0 y101 (wrap64 (x5_1 + 1)) (wrap64 (x5_1 + 1))) = some r := by first | (rw [hy101]; with_reducible exact H) | (have H2_ := (Option.bind_some _ _).symm.trans H; rw [hy101]; with_reducible exact H2_) | (have H2_ := (Option.bind_some _ _).symm.trans H; with_reducible exact H2_) | with_reducible exact H | (rw [hy101]; exact H) | exact H
                have Ny101 := Aside0.mk hy101
                clear hy101
                have H' := Aside0.mk H
                clear H
                go_wp2_with (first | ((with_reducible refine gate_builtin (b := .append) (xs := #[.tmp 22, .tmp 27]) rfl ?_); at_builtin; refine Kd.R_append Kd.string (w0 := w) w.heap.size rfl (.tmp 22) (.tmp 27) 77 9 (.string ⟨#[]⟩) 16 rfl Tryz.underlying77 info9 rfl (by decide) (by omega) u3 x3_1 (a0.extract (x4_1 : Int).toNat (x5_1 : Int).toNat) [.string (a0.extract (x4_1 : Int).toNat (x5_1 : Int).toNat)] (fun _ => True) (fun _ => False) rfl rfl ?aP (fun _ hk => hk.elim) ?aF ?aO ?aB ?aS ?aL ?_; (case aP => exact rfl); (case aB => exact (by repeat (first | (with_reducible first | exact HB.out | apply below_alloc | apply pw_below_drewN | apply below_drew1) | exact HB.out))); (case aF => exact (fun _ _ => trivial)); (case aO => exact (by (with_reducible repeat (first | apply Kd.R_alloc | apply Kd.R_drewN | apply Kd.R_drew)); exact HO_3.out)); (case aS => exact (below_size (by repeat (first | (with_reducible first | exact HB.out | apply below_alloc | apply pw_below_drewN | apply below_drew1) | exact HB.out)))); (case aL => have := LMc7.out; omega); intro v102 w8 ho hb hg hat; rw [← Ny101.out] at ho; have n0_ := Aside0.mk (hb); have n1_ := Aside0.mk (ho); clear HB; clear HO_3; have HB := n0_; have HO103 := n1_; clear n0_ n1_; clear ho hb hg hat))
                go_roundg k1
                case measure => have := HK1.out; omega
                case rel => exact ⟨(y101), (wrap64 (x5_1 + 1)), (wrap64 (x5_1 + 1)), (by first | rfl | (simp; done) | (simp [*]; done)), (by first | rfl | (simp; done) | (simp [*]; done)), H', ⟨by have := HK1.out; omega⟩, ⟨by (with_reducible repeat (first | apply Kd.R_alloc | apply Kd.R_drewN | apply Kd.R_drew)); exact HO103.out⟩, ⟨by repeat (first | (with_reducible first | exact HB.out | apply below_alloc | apply pw_below_drewN | apply below_drew1) | exact HB.out)⟩⟩
              · rw [if_neg c7] at H
                exact absurd H (by simp)
            · rw [if_neg c5] at H
              exact absurd H (by simp)
          · rw [if_neg c4] at H
            exact absurd H (by simp)
        · rw [if_neg c3] at H
          have c3b0 : (x5_1 == (a0.size : Int)) = false := beq_eq_false_iff_ne.mpr c3
          have c3b1 : (x5_1 != (a0.size : Int)) = true := bne_iff_ne.mpr c3
          by_cases c9 : 0 ≤ x5_1
          · rw [if_pos c9] at H
            have c9b0 : decide (0 ≤ x5_1) = true := decide_eq_true c9
            clear c9
            by_cases c10 : x5_1 < (a0.size : Int)
            · rw [if_pos c10] at H
              have c10b0 : decide (x5_1 < (a0.size : Int)) = true := decide_eq_true c10
              clear c10
              by_cases c12 : (bt a0 x5_1) = 47
              · rw [if_pos c12] at H
                have c12b0 : ((bt a0 x5_1) == 47) = true := beq_iff_eq.mpr c12
                have c12b1 : ((bt a0 x5_1) != 47) = false := bne_eq_false_iff_eq.mpr c12
                clear c12
                by_cases c13 : 0 ≤ x4_1
                · rw [if_pos c13] at H
                  have c13b0 := eq_true c13
                  have c13b1 : decide (0 ≤ x4_1) = true := decide_eq_true c13
                  clear c13
                  by_cases c14 : x4_1 ≤ x5_1
                  · rw [if_pos c14] at H
                    have c14b0 := eq_true c14
                    have c14b1 : decide (x4_1 ≤ x5_1) = true := decide_eq_true c14
                    clear c14
                    have c15b0 := eq_true (of_decide_eq_true (by first | (with_reducible assumption) | assumption) : x5_1 ≤ (a0.size : Int))
                    by_cases c16 : x3_1.length < 8796093022208
                    · rw [if_pos c16] at H
                      have LMc16 := Aside0.mk c16
                      clear c16
                      obtain ⟨y104, hy104⟩ : ∃ y_ : List ByteArray, y_ = (x3_1 ++ [a0.extract (x4_1 : Int).toNat (x5_1 : Int).toNat]) := ⟨_, rfl⟩
                      replace H : (slabvaultref17_parts.l0 k1 a0 y104 (wrap64 (x5_1 + 1)) (wrap64 (x5_1 + 1))) = some r := by first | (rw [hy104]; with_reducible exact H) | (have H2_ := (Option.bind_some _ _).symm.trans H; rw [hy104]; with_reducible exact H2_) | (have H2_ := (Option.bind_some _ _).symm.trans H; with_reducible exact H2_) | with_reducible exact H | (rw [hy104]; exact H) | exact H
                      have Ny104 := Aside0.mk hy104
                      clear hy104
                      have H' := Aside0.mk H
                      clear H
                      have p11 : 0 ≤ (x5_1 : Int) := of_decide_eq_true (by first | (with_reducible assumption) | assumption)
                      have q11 : x5_1 < (a0.size : Int) := of_decide_eq_true (by first | (with_reducible assumption) | assumption)
                      have hx11 := bt_at a0 x5_1
                      replace p11 := eq_true p11
                      replace q11 := eq_true q11
                      go_wp2_with (first | ((with_reducible refine gate_builtin (b := .append) (xs := #[.tmp 22, .tmp 27]) rfl ?_); at_builtin; refine Kd.R_append Kd.string (w0 := w) w.heap.size rfl (.tmp 22) (.tmp 27) 77 9 (.string ⟨#[]⟩) 16 rfl Tryz.underlying77 info9 rfl (by decide) (by omega) u3 x3_1 (a0.extract (x4_1 : Int).toNat (x5_1 : Int).toNat) [.string (a0.extract (x4_1 : Int).toNat (x5_1 : Int).toNat)] (fun _ => True) (fun _ => False) rfl rfl ?aP (fun _ hk => hk.elim) ?aF ?aO ?aB ?aS ?aL ?_; (case aP => exact rfl); (case aB => exact (by repeat (first | (with_reducible first | exact HB.out | apply below_alloc | apply pw_below_drewN | apply below_drew1) | exact HB.out))); (case aF => exact (fun _ _ => trivial)); (case aO => exact (by (with_reducible repeat (first | apply Kd.R_alloc | apply Kd.R_drewN | apply Kd.R_drew)); exact HO_3.out)); (case aS => exact (below_size (by repeat (first | (with_reducible first | exact HB.out | apply below_alloc | apply pw_below_drewN | apply below_drew1) | exact HB.out)))); (case aL => have := LMc16.out; omega); intro v105 w17 ho hb hg hat; rw [← Ny104.out] at ho; have n0_ := Aside0.mk (hb); have n1_ := Aside0.mk (ho); clear HB; clear HO_3; have HB := n0_; have HO106 := n1_; clear n0_ n1_; clear ho hb hg hat))
                      go_roundg k1
                      case measure => have := HK1.out; omega
                      case rel => exact ⟨(y104), (wrap64 (x5_1 + 1)), (wrap64 (x5_1 + 1)), (by first | rfl | (simp; done) | (simp [*]; done)), (by first | rfl | (simp; done) | (simp [*]; done)), H', ⟨by have := HK1.out; omega⟩, ⟨by (with_reducible repeat (first | apply Kd.R_alloc | apply Kd.R_drewN | apply Kd.R_drew)); exact HO106.out⟩, ⟨by repeat (first | (with_reducible first | exact HB.out | apply below_alloc | apply pw_below_drewN | apply below_drew1) | exact HB.out)⟩⟩
                    · rw [if_neg c16] at H
                      exact absurd H (by simp)
                  · rw [if_neg c14] at H
                    exact absurd H (by simp)
                · rw [if_neg c13] at H
                  exact absurd H (by simp)
              · rw [if_neg c12] at H
                have c12b0 : ((bt a0 x5_1) == 47) = false := beq_eq_false_iff_ne.mpr c12
                have c12b1 : ((bt a0 x5_1) != 47) = true := bne_iff_ne.mpr c12
                have H' := Aside0.mk H
                clear H
                have p11 : 0 ≤ (x5_1 : Int) := of_decide_eq_true (by first | (with_reducible assumption) | assumption)
                have q11 : x5_1 < (a0.size : Int) := of_decide_eq_true (by first | (with_reducible assumption) | assumption)
                have hx11 := bt_at a0 x5_1
                replace p11 := eq_true p11
                replace q11 := eq_true q11
                go_wp2
                go_roundg k1
                case measure => have := HK1.out; omega
                case rel => exact ⟨(x3_1), (x4_1), (wrap64 (x5_1 + 1)), (by first | rfl | (simp; done) | (simp [*]; done)), (by first | rfl | (simp; done) | (simp [*]; done)), H', ⟨by have := HK1.out; omega⟩, ⟨by (with_reducible repeat (first | apply Kd.R_alloc | apply Kd.R_drewN | apply Kd.R_drew)); exact HO_3.out⟩, ⟨by repeat (first | (with_reducible first | exact HB.out | apply below_alloc | apply pw_below_drewN | apply below_drew1) | exact HB.out)⟩⟩
            · rw [if_neg c10] at H
              exact absurd H (by simp)
          · rw [if_neg c9] at H
            exact absurd H (by simp)
      · rw [if_neg c2] at H
        have c2b0 : decide (x5_1 ≤ (a0.size : Int)) = false := decide_eq_false c2
        clear c2
        obtain rfl := Option.some.inj H
        go_wp2
        go_ret
        exact ⟨_, by first | rfl | (simp [errW_none, errW_some] <;> rfl) | (simp [*, errW_none, errW_some] <;> rfl), by (with_reducible repeat (first | apply Kd.R_alloc | apply Kd.R_drewN | apply Kd.R_drew)); exact HO_3.out, by repeat (first | (with_reducible first | exact HB.out | apply below_alloc | apply pw_below_drewN | apply below_drew1) | exact HB.out)⟩
end Go.Proofs.YthifdofdoeaemaaGreatDoor.Wk
end
section
namespace Go.Proofs.YthifdofdoeaemaaGreatDoor.Wk
open Go.RowKit Go.Proofs.YthifdofdoeaemaaGreatDoorW.PrintWords Go.Proofs.YthifdofdoeaemaaGreatDoorW.PrintLast Go.Proofs.YthifdofdoeaemaaGreatDoorW.PrintMore
attribute [local go_sem] max2_int min2_int max_two min_two max_three min_three max_four min_four
set_option linter.unusedVariables false
set_option linter.unusedSimpArgs false
mutual
def slabvaultref17_Parse.j0 : Nat → ByteArray → Bool → Option (List ByteArray × Int × Int)
  | 0, _, _ => none
  | k + 1, x0, x18 => if x18 = true then (some (([] : List ByteArray), 0, 9)) else ((slabvaultref17_parts.f k x0).bind fun t107 => (slabvaultref17_Parse.l0 k ([] : List ByteArray) t107 0))
def slabvaultref17_Parse.l0 : Nat → List ByteArray → List ByteArray → Int → Option (List ByteArray × Int × Int)
  | 0, _, _, _ => none
  | k + 1, x5, x6, x7 => if x7 < (x6.length : Int) then (if 0 ≤ x7 then (if (rdOf ByteArray.empty x6 x7).toList = ([] : List UInt8) then (slabvaultref17_Parse.j2 k x5 x6 x7 true) else (slabvaultref17_Parse.j2 k x5 x6 x7 ((rdOf ByteArray.empty x6 x7).toList == ([46] : List UInt8)))) else (none)) else (some (x5, 0, 0))
def slabvaultref17_Parse.j2 : Nat → List ByteArray → List ByteArray → Int → Bool → Option (List ByteArray × Int × Int)
  | 0, _, _, _, _ => none
  | k + 1, x5, x6, x7, x38 => if x38 = true then (slabvaultref17_Parse.l0 k x5 x6 (wrap64 (x7 + 1))) else (if 0 ≤ x7 then (if x7 < (x6.length : Int) then ((slabvaultref09_Name.f k (rdOf ByteArray.empty x6 x7)).bind fun t113 => (if t113 = true then (if (x5.length : Int) = 16 then (some (([] : List ByteArray), 16, 3)) else (if x5.length < 8796093022208 then (slabvaultref17_Parse.l0 k (x5 ++ [rdOf ByteArray.empty x6 x7]) x6 (wrap64 (x7 + 1))) else (none))) else (some (([] : List ByteArray), (x5.length : Int), 8)))) else (none)) else (none))
end
def slabvaultref17_Parse.f (k : Nat) (a0 : ByteArray) : Option (List ByteArray × Int × Int) := if (a0.size : Int) > 1024 then (some (([] : List ByteArray), 0, 3)) else (if (a0.size : Int) = 0 then (slabvaultref17_Parse.j0 k a0 true) else (if 0 < (a0.size : Int) then (slabvaultref17_Parse.j0 k a0 ((bt a0 0) != 47)) else (none)))
set_option maxHeartbeats 8000000 in
set_option maxRecDepth 100000 in
theorem slabvaultref17_Parse.calls (k : Nat) (a0 : ByteArray) (r1 : List ByteArray) (r2 : Int) (r3 : Int) (w : World) (h : slabvaultref17_Parse.f k a0 = some (r1, r2, r3)) :
    Calls Tryz.prog 84 #[.string a0] w fun e w' => ∃ v0_ : Value, e = .returned (.tuple #[v0_, .int .i64 r2, .int .i64 r3]) ∧ Kd.R Kd.string 9 w' w.heap.size (fun _ => True) v0_ r1 ∧ Below w.heap.size w w' := by
  have HB := Aside0.mk (Below.refl w.heap.size w)
  have H : (if (a0.size : Int) > 1024 then (some (([] : List ByteArray), 0, 3)) else (if (a0.size : Int) = 0 then (slabvaultref17_Parse.j0 k a0 true) else (if 0 < (a0.size : Int) then (slabvaultref17_Parse.j0 k a0 ((bt a0 0) != 47)) else (none)))) = some (r1, r2, r3) := h
  clear h
  by_cases c2 : (a0.size : Int) > 1024
  · rw [if_pos c2] at H
    have c2b0 : decide (1024 < (a0.size : Int)) = true := decide_eq_true c2
    have c2b1 : decide (1024 < a0.size) = true := decide_eq_true (by omega)
    clear c2
    simp only [Option.some.injEq, Prod.mk.injEq] at H
    obtain ⟨rfl, rfl, rfl⟩ := H
    go_enter Tryz.func84, Tryz.ntmps84
    go_wp2
    go_ret3
    exact ⟨_, by first | rfl | (simp [errW_none, errW_some] <;> rfl) | (simp [*, errW_none, errW_some] <;> rfl), by first | exact Kd.R_nil _ _ _ _ _ | exact Kd.N_nil _ _ _ _ _ | exact Kd.V_nil _ _ _ _ _ | exact Kd.Q_nil _ _ _ _ _ | exact Kd.S_nil _ _ _ _ _, by repeat (first | (with_reducible first | exact HB.out | apply below_alloc | apply pw_below_drewN | apply below_drew1) | exact HB.out)⟩
  · rw [if_neg c2] at H
    have c2b0 : decide (1024 < (a0.size : Int)) = false := decide_eq_false c2
    have c2b1 : decide (1024 < a0.size) = false := decide_eq_false (by omega)
    clear c2
    have HC3 := Aside0.mk H
    clear H
    go_enter Tryz.func84, Tryz.ntmps84
    go_upto_region 3 with (fail)
    go_cut [18] (fun v18 wc => ∃ (kq : Nat) (x18_2 : Bool), v18 = .bool x18_2 ∧ Aside0 (slabvaultref17_Parse.j0 kq a0 x18_2 = some (r1, r2, r3)) ∧ Aside0 (kq ≤ k) ∧ Aside0 (Below w.heap.size w wc))
    case first =>
      have H := HC3.out
      clear HC3
      by_cases c4 : (a0.size : Int) = 0
      · rw [if_pos c4] at H
        have c4b0 : ((a0.size : Int) == 0) = true := beq_iff_eq.mpr c4
        have c4b1 : ((a0.size : Int) != 0) = false := bne_eq_false_iff_eq.mpr c4
        clear c4
        (first | rw [c4b0] | (simp only [i64_w, i32_w]; rw [c4b0]) | skip)
        have H' := Aside0.mk H
        clear H
        go_wp2
        go_meet
        case rel => exact ⟨_, (true), (by first | rfl | (simp; done) | (simp [*]; done)), H', ⟨by first | omega | exact Nat.le_refl _⟩, ⟨by repeat (first | (with_reducible first | exact HB.out | apply below_alloc | apply pw_below_drewN | apply below_drew1) | exact HB.out)⟩⟩
      · rw [if_neg c4] at H
        have c4b0 : ((a0.size : Int) == 0) = false := beq_eq_false_iff_ne.mpr c4
        have c4b1 : ((a0.size : Int) != 0) = true := bne_iff_ne.mpr c4
        (first | rw [c4b0] | (simp only [i64_w, i32_w]; rw [c4b0]) | skip)
        by_cases c5 : 0 < (a0.size : Int)
        · rw [if_pos c5] at H
          have c5b0 : decide (0 < (a0.size : Int)) = true := decide_eq_true c5
          have c5b1 : decide (0 < a0.size) = true := decide_eq_true (by omega)
          clear c5
          have H' := Aside0.mk H
          clear H
          have p6 : 0 ≤ (0 : Int) := (by omega)
          have q6 : 0 < a0.size := (by have : (0 : Int) < (a0.size : Int) := of_decide_eq_true (by first | (with_reducible assumption) | assumption); omega)
          have hx6 : ∀ h : 0 < a0.size, ((a0[0]'h).toNat : Int) = bt a0 0 := bt_at a0 0
          clear p6
          have qi6 : (0 < (a0.size : Int)) = True := eq_true (of_decide_eq_true (by first | (with_reducible assumption) | assumption))
          replace q6 := eq_true q6
          go_wp2
          go_meet
          case rel => exact ⟨_, (((bt a0 0) != 47)), (by first | rfl | (simp; done) | (simp [*]; done)), H', ⟨by first | omega | exact Nat.le_refl _⟩, ⟨by repeat (first | (with_reducible first | exact HB.out | apply below_alloc | apply pw_below_drewN | apply below_drew1) | exact HB.out)⟩⟩
        · rw [if_neg c5] at H
          exact absurd H (by simp)
    case rest =>
      clear HC3
      try clear c2
      try clear c2b0
      try clear c2b1
      try clear p2
      try clear c4
      try clear c4b0
      try clear c4b1
      try clear c5
      try clear c5b0
      try clear c5b1
      try clear p6
      try clear q6
      try clear hx6
      try clear qi6
      try clear p6
      try clear q6
      obtain ⟨kq, x18_2, rfl, HA, HJ2, HB⟩ := hcut
      cases kq with
      | zero => exact absurd HA.out (by simp [slabvaultref17_Parse.j0])
      | succ kj2 =>
        have H := HA.out
        clear HA
        simp only [slabvaultref17_Parse.j0] at H
        by_cases c7 : x18_2 = true
        · subst c7
          have H1 : (some (([] : List ByteArray), 0, 9)) = some (r1, r2, r3) := by rw [if_pos rfl] at H; exact H
          clear H
          have H := H1
          clear H1
          simp only [Option.some.injEq, Prod.mk.injEq] at H
          obtain ⟨rfl, rfl, rfl⟩ := H
          go_wp2
          go_ret3
          exact ⟨_, by first | rfl | (simp [errW_none, errW_some] <;> rfl) | (simp [*, errW_none, errW_some] <;> rfl), by first | exact Kd.R_nil _ _ _ _ _ | exact Kd.N_nil _ _ _ _ _ | exact Kd.V_nil _ _ _ _ _ | exact Kd.Q_nil _ _ _ _ _ | exact Kd.S_nil _ _ _ _ _, by repeat (first | (with_reducible first | exact HB.out | apply below_alloc | apply pw_below_drewN | apply below_drew1) | exact HB.out)⟩
        · replace c7 := Bool.eq_false_iff.mpr c7
          subst c7
          have H1 : ((slabvaultref17_parts.f kj2 a0).bind fun t107 => (slabvaultref17_Parse.l0 kj2 ([] : List ByteArray) t107 0)) = some (r1, r2, r3) := by rw [if_neg (show ¬ (false = true) by decide)] at H; exact H
          clear H
          have H := H1
          clear H1
          replace H := Option.bind_eq_some_iff.mp H
          obtain ⟨t107, A80, H⟩ := H
          replace H : (slabvaultref17_Parse.l0 kj2 ([] : List ByteArray) t107 0) = some (r1, r2, r3) := H
          have A8 := Aside0.mk A80
          clear A80
          have H' := Aside0.mk H
          clear H
          go_wp2_with (first | ((with_reducible refine gate_callee (f := 114) rfl ?_); refine goesL_ (some 20) rfl rfl Tryz.func114 (by kernel_rfl) rfl #[.string a0] rfl (by (try simp only [List.map_toArray, List.map_cons, List.map_nil]); first | done | rfl | (simp only [List.length_drop, List.length_take]; rfl)) ?_; (with_reducible refine (slabvaultref17_parts.calls kj2 a0 t107 _ A8.out).mono ?_); rintro e w9 ⟨v108, rfl, ho0, hb⟩; refine ⟨_, rfl, ?_⟩; have n0_ := Aside0.mk (Kd.R_lower ho0 (below_size (by repeat (first | (with_reducible first | exact HB.out | apply below_alloc | apply pw_below_drewN | apply below_drew1) | exact HB.out)))); have n1_ := Aside0.mk (below_step (by repeat (first | (with_reducible first | exact HB.out | apply below_alloc | apply pw_below_drewN | apply below_drew1) | exact HB.out)) hb); clear HB; have HO109 := n0_; have HB := n1_; clear n0_ n1_; (try clear hb); (try clear hb2); (try clear hk); (try clear hi); (try clear ho0)))
          go_loopg [5, 7] kj2 (fun kq v5 v7 w' => ∃ (x5_2 : List ByteArray) (x7_2 : Int), v7 = .int .i64 x7_2 ∧ Aside0 (slabvaultref17_Parse.l0 kq x5_2 t107 x7_2 = some (r1, r2, r3)) ∧ Aside0 (kq ≤ kj2) ∧ Aside0 (Kd.R Kd.string 9 w' w.heap.size (fun k_ => some k_ ≠ (v108 : Value).ownBlock) v5 x5_2) ∧ Aside0 (Kd.R Kd.string 9 w' w.heap.size (fun k_ => some k_ ≠ (v5 : Value).ownBlock) v108 t107) ∧ Aside0 (Below w.heap.size w w'))
          case atStart => exact ⟨(([] : List ByteArray)), (0), (by first | rfl | (simp; done) | (simp [*]; done)), H', ⟨Nat.le_refl _⟩, ⟨by first | exact Kd.R_nil _ _ _ _ _ | exact Kd.N_nil _ _ _ _ _ | exact Kd.V_nil _ _ _ _ _ | exact Kd.Q_nil _ _ _ _ _ | exact Kd.S_nil _ _ _ _ _⟩, ⟨by (with_reducible repeat (first | apply Kd.R_alloc | apply Kd.R_drewN | apply Kd.R_drew)); exact Kd.R_mono HO109.out (fun _ hk => (by simp [Value.ownBlock]))⟩, ⟨by repeat (first | (with_reducible first | exact HB.out | apply below_alloc | apply pw_below_drewN | apply below_drew1) | exact HB.out)⟩⟩
          case round =>
            clear H'
            try clear c1
            try clear c2
            try clear c2b0
            try clear c2b1
            try clear p2
            try clear c4
            try clear c4b0
            try clear c4b1
            try clear c5
            try clear c5b0
            try clear c5b1
            try clear p6
            try clear q6
            try clear hx6
            try clear qi6
            try clear c7
            try clear c8
            try clear p2
            try clear p6
            try clear q6
            obtain ⟨x5_2, x7_2, rfl, HA, HK2, HO_5, HO_6, HB⟩ := hrel
            cases gk with
            | zero => exact absurd HA.out (by simp [slabvaultref17_Parse.l0])
            | succ k2 =>
              have H := HA.out
              clear HA
              simp only [slabvaultref17_Parse.l0] at H
              by_cases c10 : x7_2 < (t107.length : Int)
              · rw [if_pos c10] at H
                have c10b0 : decide (x7_2 < (t107.length : Int)) = true := decide_eq_true c10
                clear c10
                have HC11 := Aside0.mk H
                clear H
                obtain ⟨Ao12, co12, eo12⟩ := Kd.R_slice HO_6.out
                subst eo12
                go_upto_region 10 with (fail)
                go_cut [38] (fun v38 wc => ∃ (kq : Nat) (x38_10 : Bool), v38 = .bool x38_10 ∧ Aside0 (slabvaultref17_Parse.j2 kq x5_2 t107 x7_2 x38_10 = some (r1, r2, r3)) ∧ Aside0 (kq ≤ k2) ∧ Aside0 (Kd.R Kd.string 9 wc w.heap.size (fun k_ => some k_ ≠ ((.slice Ao12 t107.length co12) : Value).ownBlock) u5 x5_2) ∧ Aside0 (Kd.R Kd.string 9 wc w.heap.size (fun k_ => some k_ ≠ (u5 : Value).ownBlock) (.slice Ao12 t107.length co12) t107) ∧ Aside0 (Below w.heap.size w wc))
                case first =>
                  have H := HC11.out
                  clear HC11
                  by_cases c13 : 0 ≤ x7_2
                  · rw [if_pos c13] at H
                    have c13b0 : decide (0 ≤ x7_2) = true := decide_eq_true c13
                    clear c13
                    (first | rw [c13b0] | (simp only [i64_w, i32_w]; rw [c13b0]) | skip)
                    by_cases c14 : (rdOf ByteArray.empty t107 x7_2).toList = ([] : List UInt8)
                    · rw [if_pos c14] at H
                      have c14b0 : ((rdOf ByteArray.empty t107 x7_2).toList == ([] : List UInt8)) = true := beq_iff_eq.mpr c14
                      have c14b1 : ((rdOf ByteArray.empty t107 x7_2).toList != ([] : List UInt8)) = false := bne_eq_false_iff_eq.mpr c14
                      clear c14
                      have H' := Aside0.mk H
                      clear H
                      have p110 : 0 ≤ (x7_2 : Int) := of_decide_eq_true (by first | (with_reducible assumption) | assumption)
                      have q110 : x7_2 < (t107.length : Int) := of_decide_eq_true (by first | (with_reducible assumption) | assumption)
                      obtain ⟨ad110, e110, hx110_0⟩ := Kd.at_string (Kd.R_reads' HO_6.out).2.2 x7_2 p110 q110
                      cases e110
                      replace p110 := eq_true p110
                      replace q110 := eq_true q110
                      go_wp2
                      go_meet
                      case rel => exact ⟨_, (true), (by first | rfl | (simp; done) | (simp [*]; done)), H', ⟨by have := HJ2.out; have := HK2.out; first | omega | exact Nat.le_refl _⟩, ⟨by (with_reducible repeat (first | apply Kd.R_alloc | apply Kd.R_drewN | apply Kd.R_drew)); exact HO_5.out⟩, ⟨by (with_reducible repeat (first | apply Kd.R_alloc | apply Kd.R_drewN | apply Kd.R_drew)); exact HO_6.out⟩, ⟨by repeat (first | (with_reducible first | exact HB.out | apply below_alloc | apply pw_below_drewN | apply below_drew1) | exact HB.out)⟩⟩
                    · rw [if_neg c14] at H
                      have c14b0 : ((rdOf ByteArray.empty t107 x7_2).toList == ([] : List UInt8)) = false := beq_eq_false_iff_ne.mpr c14
                      have c14b1 : ((rdOf ByteArray.empty t107 x7_2).toList != ([] : List UInt8)) = true := bne_iff_ne.mpr c14
                      have H' := Aside0.mk H
                      clear H
                      have p110 : 0 ≤ (x7_2 : Int) := of_decide_eq_true (by first | (with_reducible assumption) | assumption)
                      have q110 : x7_2 < (t107.length : Int) := of_decide_eq_true (by first | (with_reducible assumption) | assumption)
                      obtain ⟨ad110, e110, hx110_0⟩ := Kd.at_string (Kd.R_reads' HO_6.out).2.2 x7_2 p110 q110
                      cases e110
                      replace p110 := eq_true p110
                      replace q110 := eq_true q110
                      have p111 : 0 ≤ (x7_2 : Int) := of_decide_eq_true (by first | (with_reducible assumption) | assumption)
                      have q111 : x7_2 < (t107.length : Int) := of_decide_eq_true (by first | (with_reducible assumption) | assumption)
                      obtain ⟨ad111, e111, hx111_0⟩ := Kd.at_string (Kd.R_reads' HO_6.out).2.2 x7_2 p111 q111
                      obtain rfl : ad110 = ad111 := (by injection e111)
                      replace p111 := eq_true p111
                      replace q111 := eq_true q111
                      go_wp2
                      go_meet
                      case rel => exact ⟨_, (((rdOf ByteArray.empty t107 x7_2).toList == ([46] : List UInt8))), (by first | rfl | (simp; done) | (simp [*]; done)), H', ⟨by have := HJ2.out; have := HK2.out; first | omega | exact Nat.le_refl _⟩, ⟨by (with_reducible repeat (first | apply Kd.R_alloc | apply Kd.R_drewN | apply Kd.R_drew)); exact HO_5.out⟩, ⟨by (with_reducible repeat (first | apply Kd.R_alloc | apply Kd.R_drewN | apply Kd.R_drew)); exact HO_6.out⟩, ⟨by repeat (first | (with_reducible first | exact HB.out | apply below_alloc | apply pw_below_drewN | apply below_drew1) | exact HB.out)⟩⟩
                  · rw [if_neg c13] at H
                    exact absurd H (by simp)
                case rest =>
                  clear HC11
                  try clear c1
                  try clear p1
                  try clear q1
                  try clear hx1
                  try clear c2
                  try clear c2b0
                  try clear c2b1
                  try clear p2
                  try clear c4
                  try clear c4b0
                  try clear c4b1
                  try clear c5
                  try clear c5b0
                  try clear c5b1
                  try clear p6
                  try clear q6
                  try clear hx6
                  try clear qi6
                  try clear c7
                  try clear c8
                  try clear c10
                  try clear c10b0
                  try clear c11
                  try clear p11
                  try clear q11
                  try clear hx11
                  try clear c13
                  try clear c13b0
                  try clear c14
                  try clear c14b0
                  try clear c14b1
                  try clear hx110_0
                  try clear hx111_0
                  try clear p110
                  try clear p111
                  try clear p2
                  try clear p6
                  try clear q110
                  try clear q111
                  try clear q6
                  obtain ⟨kq, x38_10, rfl, HA, HJ10, HO_5, HO_6, HB⟩ := hcut
                  cases kq with
                  | zero => exact absurd HA.out (by simp [slabvaultref17_Parse.j2])
                  | succ kj10 =>
                    have H := HA.out
                    clear HA
                    simp only [slabvaultref17_Parse.j2] at H
                    by_cases c15 : x38_10 = true
                    · subst c15
                      have H1 : (slabvaultref17_Parse.l0 kj10 x5_2 t107 (wrap64 (x7_2 + 1))) = some (r1, r2, r3) := by rw [if_pos rfl] at H; exact H
                      clear H
                      have H := H1
                      clear H1
                      have H' := Aside0.mk H
                      clear H
                      go_wp2
                      go_roundg kj10
                      case measure => have := HJ2.out; have := HK2.out; have := HJ10.out; omega
                      case rel => exact ⟨(x5_2), (wrap64 (x7_2 + 1)), (by first | rfl | (simp; done) | (simp [*]; done)), H', ⟨by have := HJ2.out; have := HK2.out; have := HJ10.out; omega⟩, ⟨by (with_reducible repeat (first | apply Kd.R_alloc | apply Kd.R_drewN | apply Kd.R_drew)); exact HO_5.out⟩, ⟨by (with_reducible repeat (first | apply Kd.R_alloc | apply Kd.R_drewN | apply Kd.R_drew)); exact HO_6.out⟩, ⟨by repeat (first | (with_reducible first | exact HB.out | apply below_alloc | apply pw_below_drewN | apply below_drew1) | exact HB.out)⟩⟩
                    · replace c15 := Bool.eq_false_iff.mpr c15
                      subst c15
                      have H1 : (if 0 ≤ x7_2 then (if x7_2 < (t107.length : Int) then ((slabvaultref09_Name.f kj10 (rdOf ByteArray.empty t107 x7_2)).bind fun t113 => (if t113 = true then (if (x5_2.length : Int) = 16 then (some (([] : List ByteArray), 16, 3)) else (if x5_2.length < 8796093022208 then (slabvaultref17_Parse.l0 kj10 (x5_2 ++ [rdOf ByteArray.empty t107 x7_2]) t107 (wrap64 (x7_2 + 1))) else (none))) else (some (([] : List ByteArray), (x5_2.length : Int), 8)))) else (none)) else (none)) = some (r1, r2, r3) := by rw [if_neg (show ¬ (false = true) by decide)] at H; exact H
                      clear H
                      have H := H1
                      clear H1
                      by_cases c16 : 0 ≤ x7_2
                      · rw [if_pos c16] at H
                        have c16b0 : decide (0 ≤ x7_2) = true := decide_eq_true c16
                        clear c16
                        by_cases c17 : x7_2 < (t107.length : Int)
                        · rw [if_pos c17] at H
                          have c17b0 : decide (x7_2 < (t107.length : Int)) = true := decide_eq_true c17
                          clear c17
                          replace H := Option.bind_eq_some_iff.mp H
                          obtain ⟨t113, A180, H⟩ := H
                          replace H : (if t113 = true then (if (x5_2.length : Int) = 16 then (some (([] : List ByteArray), 16, 3)) else (if x5_2.length < 8796093022208 then (slabvaultref17_Parse.l0 kj10 (x5_2 ++ [rdOf ByteArray.empty t107 x7_2]) t107 (wrap64 (x7_2 + 1))) else (none))) else (some (([] : List ByteArray), (x5_2.length : Int), 8))) = some (r1, r2, r3) := H
                          have A18 := Aside0.mk A180
                          clear A180
                          by_cases c19 : t113 = true
                          · subst c19
                            have H1 : (if (x5_2.length : Int) = 16 then (some (([] : List ByteArray), 16, 3)) else (if x5_2.length < 8796093022208 then (slabvaultref17_Parse.l0 kj10 (x5_2 ++ [rdOf ByteArray.empty t107 x7_2]) t107 (wrap64 (x7_2 + 1))) else (none))) = some (r1, r2, r3) := by rw [if_pos rfl] at H; exact H
                            clear H
                            have H := H1
                            clear H1
                            by_cases c20 : (x5_2.length : Int) = 16
                            · rw [if_pos c20] at H
                              have c20b0 : ((x5_2.length : Int) == 16) = true := beq_iff_eq.mpr c20
                              have c20b1 : ((x5_2.length : Int) != 16) = false := bne_eq_false_iff_eq.mpr c20
                              clear c20
                              simp only [Option.some.injEq, Prod.mk.injEq] at H
                              obtain ⟨rfl, rfl, rfl⟩ := H
                              have p112 : 0 ≤ (x7_2 : Int) := of_decide_eq_true (by first | (with_reducible assumption) | assumption)
                              have q112 : x7_2 < (t107.length : Int) := of_decide_eq_true (by first | (with_reducible assumption) | assumption)
                              obtain ⟨ad112, e112, hx112_0⟩ := Kd.at_string (Kd.R_reads' HO_6.out).2.2 x7_2 p112 q112
                              cases e112
                              replace p112 := eq_true p112
                              replace q112 := eq_true q112
                              go_wp2_with (first | ((with_reducible refine gate_callee (f := 82) rfl ?_); refine goesL_ (some 43) rfl rfl Tryz.func82 (by kernel_rfl) rfl #[.string (rdOf ByteArray.empty t107 x7_2)] rfl (by (try simp only [List.map_toArray, List.map_cons, List.map_nil]); first | done | rfl | (simp only [List.length_drop, List.length_take]; rfl)) ?_; (with_reducible refine (slabvaultref09_Name.calls kj10 (rdOf ByteArray.empty t107 x7_2) true _ A18.out).mono ?_); rintro e w' ⟨rfl, ⟨nd, rfl⟩⟩; refine ⟨_, rfl, ?_⟩; obtain ⟨Ao21, co21, eo21⟩ := Kd.R_slice HO_5.out; subst eo21))
                              go_ret3
                              exact ⟨_, by first | rfl | (simp [errW_none, errW_some] <;> rfl) | (simp [*, errW_none, errW_some] <;> rfl), by first | exact Kd.R_nil _ _ _ _ _ | exact Kd.N_nil _ _ _ _ _ | exact Kd.V_nil _ _ _ _ _ | exact Kd.Q_nil _ _ _ _ _ | exact Kd.S_nil _ _ _ _ _, by repeat (first | (with_reducible first | exact HB.out | apply below_alloc | apply pw_below_drewN | apply below_drew1) | exact HB.out)⟩
                            · rw [if_neg c20] at H
                              have c20b0 : ((x5_2.length : Int) == 16) = false := beq_eq_false_iff_ne.mpr c20
                              have c20b1 : ((x5_2.length : Int) != 16) = true := bne_iff_ne.mpr c20
                              by_cases c22 : x5_2.length < 8796093022208
                              · rw [if_pos c22] at H
                                have LMc22 := Aside0.mk c22
                                clear c22
                                obtain ⟨y115, hy115⟩ : ∃ y_ : List ByteArray, y_ = (x5_2 ++ [rdOf ByteArray.empty t107 x7_2]) := ⟨_, rfl⟩
                                replace H : (slabvaultref17_Parse.l0 kj10 y115 t107 (wrap64 (x7_2 + 1))) = some (r1, r2, r3) := by first | (rw [hy115]; with_reducible exact H) | (have H2_ := (Option.bind_some _ _).symm.trans H; rw [hy115]; with_reducible exact H2_) | (have H2_ := (Option.bind_some _ _).symm.trans H; with_reducible exact H2_) | with_reducible exact H | (rw [hy115]; exact H) | exact H
                                have Ny115 := Aside0.mk hy115
                                clear hy115
                                have H' := Aside0.mk H
                                clear H
                                have p112 : 0 ≤ (x7_2 : Int) := of_decide_eq_true (by first | (with_reducible assumption) | assumption)
                                have q112 : x7_2 < (t107.length : Int) := of_decide_eq_true (by first | (with_reducible assumption) | assumption)
                                obtain ⟨ad112, e112, hx112_0⟩ := Kd.at_string (Kd.R_reads' HO_6.out).2.2 x7_2 p112 q112
                                cases e112
                                replace p112 := eq_true p112
                                replace q112 := eq_true q112
                                go_wp2_with (first | ((with_reducible refine gate_callee (f := 82) rfl ?_); refine goesL_ (some 43) rfl rfl Tryz.func82 (by kernel_rfl) rfl #[.string (rdOf ByteArray.empty t107 x7_2)] rfl (by (try simp only [List.map_toArray, List.map_cons, List.map_nil]); first | done | rfl | (simp only [List.length_drop, List.length_take]; rfl)) ?_; (with_reducible refine (slabvaultref09_Name.calls kj10 (rdOf ByteArray.empty t107 x7_2) true _ A18.out).mono ?_); rintro e w' ⟨rfl, ⟨nd, rfl⟩⟩; refine ⟨_, rfl, ?_⟩; obtain ⟨Ao23, co23, eo23⟩ := Kd.R_slice HO_5.out; subst eo23; have p114 : 0 ≤ (x7_2 : Int) := of_decide_eq_true (by first | (with_reducible assumption) | assumption); have q114 : x7_2 < (t107.length : Int) := of_decide_eq_true (by first | (with_reducible assumption) | assumption); obtain ⟨ad114, e114, hx114_0⟩ := Kd.at_string (Kd.R_reads' HO_6.out).2.2 x7_2 p114 q114; obtain rfl : ad112 = ad114 := (by injection e114); replace p114 := eq_true p114; replace q114 := eq_true q114) | ((with_reducible refine gate_builtin (b := .append) (xs := #[.tmp 50, .tmp 55]) rfl ?_); at_builtin; refine Kd.R_append Kd.string (w0 := w) w.heap.size rfl (.tmp 50) (.tmp 55) 77 9 (.string ⟨#[]⟩) 16 rfl Tryz.underlying77 info9 rfl (by decide) (by omega) (.slice Ao23 x5_2.length co23) x5_2 (rdOf ByteArray.empty t107 x7_2) [.string (rdOf ByteArray.empty t107 x7_2)] (fun k_ => some k_ ≠ (.slice (some ad112) t107.length co12 : Value).ownBlock) (fun _ => False) rfl rfl ?aP (fun _ hk => hk.elim) ?aF ?aO ?aB ?aS ?aL ?_; (case aP => exact rfl); (case aB => exact (by repeat (first | (with_reducible first | exact HB.out | apply below_alloc | apply pw_below_drewN | apply below_drew1) | exact HB.out))); (case aF => exact (fun k_ hk => Kd.fresh' (Kd.R_lt (by (with_reducible repeat (first | apply Kd.R_alloc | apply Kd.R_drewN | apply Kd.R_drew)); exact HO_6.out)) k_ hk)); (case aO => exact (by (with_reducible repeat (first | apply Kd.R_alloc | apply Kd.R_drewN | apply Kd.R_drew)); exact HO_5.out)); (case aS => exact (below_size (by repeat (first | (with_reducible first | exact HB.out | apply below_alloc | apply pw_below_drewN | apply below_drew1) | exact HB.out)))); (case aL => have := LMc22.out; omega); intro v116 w24 ho hb hg hat; rw [← Ny115.out] at ho; have n0_ := Aside0.mk (Kd.R_after (ok := (fun _ => True)) (by (with_reducible repeat (first | apply Kd.R_alloc | apply Kd.R_drewN | apply Kd.R_drew)); exact Kd.R_mono HO_6.out (fun _ hk => ⟨trivial, hk⟩)) hg hat); have n1_ := Aside0.mk (hb); have n2_ := Aside0.mk (ho); clear HO_6; clear HB; clear HO_5; have HO_6 := n0_; have HB := n1_; have HO117 := n2_; clear n0_ n1_ n2_; clear ho hb hg hat))
                                go_roundg kj10
                                case measure => have := HJ2.out; have := HK2.out; have := HJ10.out; omega
                                case rel => exact ⟨(y115), (wrap64 (x7_2 + 1)), (by first | rfl | (simp; done) | (simp [*]; done)), H', ⟨by have := HJ2.out; have := HK2.out; have := HJ10.out; omega⟩, ⟨by (with_reducible repeat (first | apply Kd.R_alloc | apply Kd.R_drewN | apply Kd.R_drew)); exact HO117.out⟩, ⟨by (with_reducible repeat (first | apply Kd.R_alloc | apply Kd.R_drewN | apply Kd.R_drew)); exact Kd.R_mono HO_6.out (fun _ hk => hk.2)⟩, ⟨by repeat (first | (with_reducible first | exact HB.out | apply below_alloc | apply pw_below_drewN | apply below_drew1) | exact HB.out)⟩⟩
                              · rw [if_neg c22] at H
                                exact absurd H (by simp)
                          · replace c19 := Bool.eq_false_iff.mpr c19
                            subst c19
                            have H1 : (some (([] : List ByteArray), (x5_2.length : Int), 8)) = some (r1, r2, r3) := by rw [if_neg (show ¬ (false = true) by decide)] at H; exact H
                            clear H
                            have H := H1
                            clear H1
                            simp only [Option.some.injEq, Prod.mk.injEq] at H
                            obtain ⟨rfl, rfl, rfl⟩ := H
                            have p112 : 0 ≤ (x7_2 : Int) := of_decide_eq_true (by first | (with_reducible assumption) | assumption)
                            have q112 : x7_2 < (t107.length : Int) := of_decide_eq_true (by first | (with_reducible assumption) | assumption)
                            obtain ⟨ad112, e112, hx112_0⟩ := Kd.at_string (Kd.R_reads' HO_6.out).2.2 x7_2 p112 q112
                            cases e112
                            replace p112 := eq_true p112
                            replace q112 := eq_true q112
                            go_wp2_with (first | ((with_reducible refine gate_callee (f := 82) rfl ?_); refine goesL_ (some 43) rfl rfl Tryz.func82 (by kernel_rfl) rfl #[.string (rdOf ByteArray.empty t107 x7_2)] rfl (by (try simp only [List.map_toArray, List.map_cons, List.map_nil]); first | done | rfl | (simp only [List.length_drop, List.length_take]; rfl)) ?_; (with_reducible refine (slabvaultref09_Name.calls kj10 (rdOf ByteArray.empty t107 x7_2) false _ A18.out).mono ?_); rintro e w' ⟨rfl, ⟨nd, rfl⟩⟩; refine ⟨_, rfl, ?_⟩; obtain ⟨Ao25, co25, eo25⟩ := Kd.R_slice HO_5.out; subst eo25))
                            go_ret3
                            exact ⟨_, by first | rfl | (simp [errW_none, errW_some] <;> rfl) | (simp [*, errW_none, errW_some] <;> rfl), by first | exact Kd.R_nil _ _ _ _ _ | exact Kd.N_nil _ _ _ _ _ | exact Kd.V_nil _ _ _ _ _ | exact Kd.Q_nil _ _ _ _ _ | exact Kd.S_nil _ _ _ _ _, by repeat (first | (with_reducible first | exact HB.out | apply below_alloc | apply pw_below_drewN | apply below_drew1) | exact HB.out)⟩
                        · rw [if_neg c17] at H
                          exact absurd H (by simp)
                      · rw [if_neg c16] at H
                        exact absurd H (by simp)
              · rw [if_neg c10] at H
                have c10b0 : decide (x7_2 < (t107.length : Int)) = false := decide_eq_false c10
                clear c10
                simp only [Option.some.injEq, Prod.mk.injEq] at H
                obtain ⟨rfl, rfl, rfl⟩ := H
                obtain ⟨Ao26, co26, eo26⟩ := Kd.R_slice HO_6.out
                subst eo26
                go_wp2
                go_ret3
                exact ⟨_, by first | rfl | (simp [errW_none, errW_some] <;> rfl) | (simp [*, errW_none, errW_some] <;> rfl), by (with_reducible repeat (first | apply Kd.R_alloc | apply Kd.R_drewN | apply Kd.R_drew)); exact Kd.R_mono HO_5.out (fun _ hk => trivial), by repeat (first | (with_reducible first | exact HB.out | apply below_alloc | apply pw_below_drewN | apply below_drew1) | exact HB.out)⟩
end Go.Proofs.YthifdofdoeaemaaGreatDoor.Wk
end
section
namespace Go.Proofs.YthifdofdoeaemaaGreatDoor.Wk
open Go.RowKit Go.Proofs.YthifdofdoeaemaaGreatDoorW.PrintWords Go.Proofs.YthifdofdoeaemaaGreatDoorW.PrintLast Go.Proofs.YthifdofdoeaemaaGreatDoorW.PrintMore
attribute [local go_sem] max2_int min2_int max_two min_two max_three min_three max_four min_four
set_option linter.unusedVariables false
set_option linter.unusedSimpArgs false
def slabvaultref07_sign.f (a0 : Int) : Option (Int) := if a0 < 0 then (some (-1)) else (if a0 > 0 then (some 1) else (some 0))
set_option maxHeartbeats 8000000 in
set_option maxRecDepth 100000 in
theorem slabvaultref07_sign.calls (a0 : Int) (r : Int) (w : World) (h : slabvaultref07_sign.f a0 = some r) :
    Calls Tryz.prog 113 #[.int .i64 a0] w fun e w' => e = .returned (.int .i64 r) ∧ Drawn0 w w' := by
  have H : (if a0 < 0 then (some (-1)) else (if a0 > 0 then (some 1) else (some 0))) = some r := h
  clear h
  by_cases c2 : a0 < 0
  · rw [if_pos c2] at H
    have c2b0 : decide (a0 < 0) = true := decide_eq_true c2
    clear c2
    obtain rfl := Option.some.inj H
    go_enter Tryz.func113, Tryz.ntmps113
    go_wp2
    go_ret
    exact ⟨by first | rfl | (simp; done) | (simp [*]; done), by repeat (first | exact Drawn0.refl _ | apply Drawn0.step)⟩
  · rw [if_neg c2] at H
    have c2b0 : decide (a0 < 0) = false := decide_eq_false c2
    clear c2
    by_cases c3 : a0 > 0
    · rw [if_pos c3] at H
      have c3b0 : decide (0 < a0) = true := decide_eq_true c3
      clear c3
      obtain rfl := Option.some.inj H
      go_enter Tryz.func113, Tryz.ntmps113
      go_wp2
      go_ret
      exact ⟨by first | rfl | (simp; done) | (simp [*]; done), by repeat (first | exact Drawn0.refl _ | apply Drawn0.step)⟩
    · rw [if_neg c3] at H
      have c3b0 : decide (0 < a0) = false := decide_eq_false c3
      clear c3
      obtain rfl := Option.some.inj H
      go_enter Tryz.func113, Tryz.ntmps113
      go_wp2
      go_ret
      exact ⟨by first | rfl | (simp; done) | (simp [*]; done), by repeat (first | exact Drawn0.refl _ | apply Drawn0.step)⟩
end Go.Proofs.YthifdofdoeaemaaGreatDoor.Wk
end
section
namespace Go.Proofs.YthifdofdoeaemaaGreatDoor.Wk
open Go.RowKit Go.Proofs.YthifdofdoeaemaaGreatDoorW.PrintWords Go.Proofs.YthifdofdoeaemaaGreatDoorW.PrintLast Go.Proofs.YthifdofdoeaemaaGreatDoorW.PrintMore
attribute [local go_sem] max2_int min2_int max_two min_two max_three min_three max_four min_four
set_option linter.unusedVariables false
set_option linter.unusedSimpArgs false
mutual
def slabvaultref07_CmpNames.l0 : Nat → ByteArray → ByteArray → Int → Option (Int)
  | 0, _, _, _ => none
  | k + 1, x0, x1, x5 => if x5 < (x0.size : Int) then (slabvaultref07_CmpNames.j1 k x0 x1 x5 (decide (x5 < (x1.size : Int)))) else (slabvaultref07_CmpNames.j1 k x0 x1 x5 false)
def slabvaultref07_CmpNames.j1 : Nat → ByteArray → ByteArray → Int → Bool → Option (Int)
  | 0, _, _, _, _ => none
  | k + 1, x0, x1, x5, x15 => if x15 = true then (if 0 ≤ x5 then (if x5 < (x0.size : Int) then (if x5 < (x1.size : Int) then (if (bt x0 x5) < (bt x1 x5) then (some (-1)) else (if (bt x0 x5) > (bt x1 x5) then (some 1) else (slabvaultref07_CmpNames.l0 k x0 x1 (wrap64 (x5 + 1))))) else (none)) else (none)) else (none)) else ((slabvaultref07_sign.f (wrap64 ((x0.size : Int) - (x1.size : Int)))).bind fun t118 => (some t118))
end
def slabvaultref07_CmpNames.f (k : Nat) (a0 : ByteArray) (a1 : ByteArray) : Option (Int) := slabvaultref07_CmpNames.l0 k a0 a1 0
set_option maxHeartbeats 8000000 in
set_option maxRecDepth 100000 in
theorem slabvaultref07_CmpNames.calls (k : Nat) (a0 : ByteArray) (a1 : ByteArray) (r : Int) (w : World) (h : slabvaultref07_CmpNames.f k a0 a1 = some r) :
    Calls Tryz.prog 83 #[.string a0, .string a1] w fun e w' => e = .returned (.int .i64 r) ∧ Drawn0 w w' := by
  have H : (slabvaultref07_CmpNames.l0 k a0 a1 0) = some r := h
  clear h
  have H' := Aside0.mk H
  clear H
  go_enter Tryz.func83, Tryz.ntmps83
  go_wp2
  repeat (go_quiet (fail); try go_wp2)
  go_loopg [5] k (fun kq v5 w' => ∃ (x5_1 : Int), v5 = .int .i64 x5_1 ∧ Aside0 (slabvaultref07_CmpNames.l0 kq a0 a1 x5_1 = some r) ∧ Aside0 (kq ≤ k) ∧ Drawn0 w w')
  case atStart => exact ⟨(0), (by first | rfl | (simp; done) | (simp [*]; done)), H', ⟨Nat.le_refl _⟩, by repeat (first | exact Drawn0.refl _ | apply Drawn0.step)⟩
  case round =>
    clear H'
    try clear p2
    obtain ⟨x5_1, rfl, HA, HK1, ⟨m1, rfl⟩⟩ := hrel
    cases gk with
    | zero => exact absurd HA.out (by simp [slabvaultref07_CmpNames.l0])
    | succ k1 =>
      have H := HA.out
      clear HA
      simp only [slabvaultref07_CmpNames.l0] at H
      have HC3 := Aside0.mk H
      clear H
      go_upto_region 2 with (fail)
      repeat (go_quiet (fail); go_upto_region 2 with (fail))
      go_cut [15] (fun v15 wc => ∃ (kq : Nat) (x15_2 : Bool), v15 = .bool x15_2 ∧ Aside0 (slabvaultref07_CmpNames.j1 kq a0 a1 x5_1 x15_2 = some r) ∧ Aside0 (kq ≤ k1) ∧ Drawn0 w wc)
      case first =>
        have H := HC3.out
        clear HC3
        by_cases c4 : x5_1 < (a0.size : Int)
        · rw [if_pos c4] at H
          have c4b0 : decide (x5_1 < (a0.size : Int)) = true := decide_eq_true c4
          clear c4
          (first | rw [c4b0] | (simp only [i64_w, i32_w]; rw [c4b0]) | skip)
          have H' := Aside0.mk H
          clear H
          go_wp2
          repeat (go_quiet (fail); try go_wp2)
          go_meet
          case rel => exact ⟨_, (decide (x5_1 < (a1.size : Int))), (by first | rfl | (simp; done) | (simp [*]; done)), H', ⟨by have := HK1.out; first | omega | exact Nat.le_refl _⟩, by repeat (first | exact Drawn0.refl _ | apply Drawn0.step)⟩
        · rw [if_neg c4] at H
          have c4b0 : decide (x5_1 < (a0.size : Int)) = false := decide_eq_false c4
          clear c4
          (first | rw [c4b0] | (simp only [i64_w, i32_w]; rw [c4b0]) | skip)
          have H' := Aside0.mk H
          clear H
          go_wp2
          repeat (go_quiet (fail); try go_wp2)
          go_meet
          case rel => exact ⟨_, (false), (by first | rfl | (simp; done) | (simp [*]; done)), H', ⟨by have := HK1.out; first | omega | exact Nat.le_refl _⟩, by repeat (first | exact Drawn0.refl _ | apply Drawn0.step)⟩
      case rest =>
        clear HC3
        try clear p2
        try clear c4
        try clear c4b0
        try clear p2
        obtain ⟨kq, x15_2, rfl, HA, HJ2, ⟨mc2, rfl⟩⟩ := hcut
        cases kq with
        | zero => exact absurd HA.out (by simp [slabvaultref07_CmpNames.j1])
        | succ kj2 =>
          have H := HA.out
          clear HA
          simp only [slabvaultref07_CmpNames.j1] at H
          by_cases c5 : x15_2 = true
          · subst c5
            have H1 : (if 0 ≤ x5_1 then (if x5_1 < (a0.size : Int) then (if x5_1 < (a1.size : Int) then (if (bt a0 x5_1) < (bt a1 x5_1) then (some (-1)) else (if (bt a0 x5_1) > (bt a1 x5_1) then (some 1) else (slabvaultref07_CmpNames.l0 kj2 a0 a1 (wrap64 (x5_1 + 1))))) else (none)) else (none)) else (none)) = some r := by rw [if_pos rfl] at H; exact H
            clear H
            have H := H1
            clear H1
            by_cases c6 : 0 ≤ x5_1
            · rw [if_pos c6] at H
              have c6b0 : decide (0 ≤ x5_1) = true := decide_eq_true c6
              clear c6
              by_cases c7 : x5_1 < (a0.size : Int)
              · rw [if_pos c7] at H
                have c7b0 : decide (x5_1 < (a0.size : Int)) = true := decide_eq_true c7
                clear c7
                by_cases c9 : x5_1 < (a1.size : Int)
                · rw [if_pos c9] at H
                  have c9b0 : decide (x5_1 < (a1.size : Int)) = true := decide_eq_true c9
                  clear c9
                  by_cases c11 : (bt a0 x5_1) < (bt a1 x5_1)
                  · rw [if_pos c11] at H
                    have c11b0 : decide ((bt a0 x5_1) < (bt a1 x5_1)) = true := decide_eq_true c11
                    clear c11
                    obtain rfl := Option.some.inj H
                    have p8 : 0 ≤ (x5_1 : Int) := of_decide_eq_true (by first | (with_reducible assumption) | assumption)
                    have q8 : x5_1 < (a0.size : Int) := of_decide_eq_true (by first | (with_reducible assumption) | assumption)
                    have hx8 := bt_at a0 x5_1
                    replace p8 := eq_true p8
                    replace q8 := eq_true q8
                    have p10 : 0 ≤ (x5_1 : Int) := of_decide_eq_true (by first | (with_reducible assumption) | assumption)
                    have q10 : x5_1 < (a1.size : Int) := of_decide_eq_true (by first | (with_reducible assumption) | assumption)
                    have hx10 := bt_at a1 x5_1
                    replace p10 := eq_true p10
                    replace q10 := eq_true q10
                    go_wp2
                    repeat (go_quiet (fail); try go_wp2)
                    go_ret
                    exact ⟨by first | rfl | (simp; done) | (simp [*]; done), by repeat (first | exact Drawn0.refl _ | apply Drawn0.step)⟩
                  · rw [if_neg c11] at H
                    have c11b0 : decide ((bt a0 x5_1) < (bt a1 x5_1)) = false := decide_eq_false c11
                    clear c11
                    by_cases c14 : (bt a0 x5_1) > (bt a1 x5_1)
                    · rw [if_pos c14] at H
                      have c14b0 : decide ((bt a1 x5_1) < (bt a0 x5_1)) = true := decide_eq_true c14
                      clear c14
                      obtain rfl := Option.some.inj H
                      have p8 : 0 ≤ (x5_1 : Int) := of_decide_eq_true (by first | (with_reducible assumption) | assumption)
                      have q8 : x5_1 < (a0.size : Int) := of_decide_eq_true (by first | (with_reducible assumption) | assumption)
                      have hx8 := bt_at a0 x5_1
                      replace p8 := eq_true p8
                      replace q8 := eq_true q8
                      have p10 : 0 ≤ (x5_1 : Int) := of_decide_eq_true (by first | (with_reducible assumption) | assumption)
                      have q10 : x5_1 < (a1.size : Int) := of_decide_eq_true (by first | (with_reducible assumption) | assumption)
                      have hx10 := bt_at a1 x5_1
                      replace p10 := eq_true p10
                      replace q10 := eq_true q10
                      have p12 : 0 ≤ (x5_1 : Int) := of_decide_eq_true (by first | (with_reducible assumption) | assumption)
                      have q12 : x5_1 < (a0.size : Int) := of_decide_eq_true (by first | (with_reducible assumption) | assumption)
                      have hx12 := bt_at a0 x5_1
                      replace p12 := eq_true p12
                      replace q12 := eq_true q12
                      have p13 : 0 ≤ (x5_1 : Int) := of_decide_eq_true (by first | (with_reducible assumption) | assumption)
                      have q13 : x5_1 < (a1.size : Int) := of_decide_eq_true (by first | (with_reducible assumption) | assumption)
                      have hx13 := bt_at a1 x5_1
                      replace p13 := eq_true p13
                      replace q13 := eq_true q13
                      go_wp2
                      repeat (go_quiet (fail); try go_wp2)
                      go_ret
                      exact ⟨by first | rfl | (simp; done) | (simp [*]; done), by repeat (first | exact Drawn0.refl _ | apply Drawn0.step)⟩
                    · rw [if_neg c14] at H
                      have c14b0 : decide ((bt a1 x5_1) < (bt a0 x5_1)) = false := decide_eq_false c14
                      clear c14
                      have H' := Aside0.mk H
                      clear H
                      have p8 : 0 ≤ (x5_1 : Int) := of_decide_eq_true (by first | (with_reducible assumption) | assumption)
                      have q8 : x5_1 < (a0.size : Int) := of_decide_eq_true (by first | (with_reducible assumption) | assumption)
                      have hx8 := bt_at a0 x5_1
                      replace p8 := eq_true p8
                      replace q8 := eq_true q8
                      have p10 : 0 ≤ (x5_1 : Int) := of_decide_eq_true (by first | (with_reducible assumption) | assumption)
                      have q10 : x5_1 < (a1.size : Int) := of_decide_eq_true (by first | (with_reducible assumption) | assumption)
                      have hx10 := bt_at a1 x5_1
                      replace p10 := eq_true p10
                      replace q10 := eq_true q10
                      have p12 : 0 ≤ (x5_1 : Int) := of_decide_eq_true (by first | (with_reducible assumption) | assumption)
                      have q12 : x5_1 < (a0.size : Int) := of_decide_eq_true (by first | (with_reducible assumption) | assumption)
                      have hx12 := bt_at a0 x5_1
                      replace p12 := eq_true p12
                      replace q12 := eq_true q12
                      have p13 : 0 ≤ (x5_1 : Int) := of_decide_eq_true (by first | (with_reducible assumption) | assumption)
                      have q13 : x5_1 < (a1.size : Int) := of_decide_eq_true (by first | (with_reducible assumption) | assumption)
                      have hx13 := bt_at a1 x5_1
                      replace p13 := eq_true p13
                      replace q13 := eq_true q13
                      go_wp2
                      repeat (go_quiet (fail); try go_wp2)
                      go_roundg kj2
                      case measure => have := HK1.out; have := HJ2.out; omega
                      case rel => exact ⟨(wrap64 (x5_1 + 1)), (by first | rfl | (simp; done) | (simp [*]; done)), H', ⟨by have := HK1.out; have := HJ2.out; omega⟩, by repeat (first | exact Drawn0.refl _ | apply Drawn0.step)⟩
                · rw [if_neg c9] at H
                  exact absurd H (by simp)
              · rw [if_neg c7] at H
                exact absurd H (by simp)
            · rw [if_neg c6] at H
              exact absurd H (by simp)
          · replace c5 := Bool.eq_false_iff.mpr c5
            subst c5
            have H1 : ((slabvaultref07_sign.f (wrap64 ((a0.size : Int) - (a1.size : Int)))).bind fun t118 => (some t118)) = some r := by rw [if_neg (show ¬ (false = true) by decide)] at H; exact H
            clear H
            have H := H1
            clear H1
            replace H := Option.bind_eq_some_iff.mp H
            obtain ⟨t118, A150, H⟩ := H
            replace H : (some t118) = some r := H
            have A15 := Aside0.mk A150
            clear A150
            obtain rfl := Option.some.inj H
            go_wp2_with (first | (go_at_call 113; (with_reducible refine (slabvaultref07_sign.calls (wrap64 ((a0.size : Int) - (a1.size : Int))) t118 _ A15.out).mono ?_); rintro e w' ⟨rfl, ⟨nd, rfl⟩⟩; (try first | exact ⟨rfl, _, World.drewN_drewN _ _ _⟩ | exact ⟨rfl, _, Eq.trans (World.drewN_drewN _ _ _) (congrArg (World.drewN _) (Nat.add_assoc _ _ _))⟩)))
            repeat (go_quiet (first | (go_at_call 113; (with_reducible refine (slabvaultref07_sign.calls (wrap64 ((a0.size : Int) - (a1.size : Int))) t118 _ A15.out).mono ?_); rintro e w' ⟨rfl, ⟨nd, rfl⟩⟩; (try first | exact ⟨rfl, _, World.drewN_drewN _ _ _⟩ | exact ⟨rfl, _, Eq.trans (World.drewN_drewN _ _ _) (congrArg (World.drewN _) (Nat.add_assoc _ _ _))⟩))); try go_wp2_with (first | (go_at_call 113; (with_reducible refine (slabvaultref07_sign.calls (wrap64 ((a0.size : Int) - (a1.size : Int))) t118 _ A15.out).mono ?_); rintro e w' ⟨rfl, ⟨nd, rfl⟩⟩; (try first | exact ⟨rfl, _, World.drewN_drewN _ _ _⟩ | exact ⟨rfl, _, Eq.trans (World.drewN_drewN _ _ _) (congrArg (World.drewN _) (Nat.add_assoc _ _ _))⟩))))
            go_ret
            exact ⟨by first | rfl | (simp; done) | (simp [*]; done), by repeat (first | exact Drawn0.refl _ | apply Drawn0.step)⟩
end Go.Proofs.YthifdofdoeaemaaGreatDoor.Wk
end
section
namespace Go.Proofs.YthifdofdoeaemaaGreatDoor.Wk
open Go.RowKit Go.Proofs.YthifdofdoeaemaaGreatDoorW.PrintWords Go.Proofs.YthifdofdoeaemaaGreatDoorW.PrintLast Go.Proofs.YthifdofdoeaemaaGreatDoorW.PrintMore
attribute [local go_sem] max2_int min2_int max_two min_two max_three min_three max_four min_four
set_option linter.unusedVariables false
set_option linter.unusedSimpArgs false
section
open Go.RowKit Go.Lib Go.Proofs.YthifdofdoeaemaaGreatDoorW.PrintWords Go.Proofs.YthifdofdoeaemaaGreatDoorW.PrintLast Go.Proofs.YthifdofdoeaemaaGreatDoorW.PrintMore
set_option linter.unusedVariables false
theorem wrap_nat (i : Nat) (h : i < 9223372036854775806) : wrap64 ((i : Int) + 1) = ((i + 1 : Nat) : Int) := by
  unfold wrap64
  omega
theorem bt_nat (s : ByteArray) (i : Nat) (b : UInt8) (h : s.data.toList[i]? = some b) : bt s (i : Int) = (b.toNat : Int) := by
  have hi : i < s.size := by rw [Lib.size_eq]; exact (List.getElem?_eq_some_iff.1 h).1
  unfold bt
  rw [show ((i : Int)).toNat = i from rfl, dif_pos hi]
  have := Lib.data_getElem? s i hi
  rw [h] at this
  cases this
  rfl
theorem byte_eq (b c : UInt8) : ((b.toNat : Int) = (c.toNat : Int)) ↔ b = c := by
  constructor
  · intro h
    exact UInt8.toNat_inj.1 (by omega)
  · rintro rfl; rfl
theorem byte_zero (b : UInt8) : ((b.toNat : Int) = 0) ↔ b = 0 := byte_eq b 0
theorem byte_slash (b : UInt8) : ((b.toNat : Int) = 47) ↔ b = 47 := byte_eq b 47
theorem any_consR (b : UInt8) (l : List UInt8) : Lib.containsAny (b :: l) [47, 0] = (decide (b = 47 ∨ b = 0) || Lib.containsAny l [47, 0]) := by
  have hg := Lib.indexAny_ge [47, 0] l
  by_cases h : b = 47 ∨ b = 0
  · have hc : ([47, 0] : List UInt8).contains b = true := by rcases h with rfl | rfl <;> rfl
    simp [Lib.containsAny, Lib.indexAny, h]
  · have hc : ([47, 0] : List UInt8).contains b = false := by
      simp only [List.contains_cons, List.contains_nil, Bool.or_false, Bool.or_eq_false_iff, beq_eq_false_iff_ne]
      exact ⟨fun e => h (.inl e), fun e => h (.inr e)⟩
    have hd : decide (b = 47 ∨ b = 0) = false := decide_eq_false h
    rw [hd, Bool.false_or]
    unfold Lib.containsAny
    congr 1
    rw [Lib.indexAny, if_neg (by rw [hc]; simp)]
    split
    · rename_i h1
      have : Lib.indexAny l [47, 0] = -1 := by simpa using h1
      rw [this]
    · rename_i h1
      have : Lib.indexAny l [47, 0] ≠ -1 := by simpa using h1
      apply propext
      omega
theorem any_nil : Lib.containsAny [] [47, 0] = false := rfl
theorem nameLoop (s : ByteArray) (hs : s.size < 1000000) : ∀ (d i k : Nat), s.size - i = d → i ≤ s.size → d < k →
    slabvaultref09_Name.l0 k s (i : Int) = some (!(Lib.containsAny (s.data.toList.drop i) [47, 0])) := by
  have hz := Lib.size_eq s
  intro d
  induction d with
  | zero =>
    intro i k hd hi hk
    obtain ⟨k, rfl⟩ : ∃ m, k = m + 1 := ⟨k - 1, by omega⟩
    have : i = s.size := by omega
    subst this
    simp only [slabvaultref09_Name.l0]
    rw [if_neg (by omega), hz, List.drop_of_length_le (Nat.le_refl _), any_nil]
    rfl
  | succ d ih =>
    intro i k hd hi hk
    obtain ⟨k, rfl⟩ : ∃ m, k = m + 1 := ⟨k - 1, by omega⟩
    have hlt : i < s.data.toList.length := by omega
    have hb := bt_nat s i (s.data.toList[i]) (List.getElem?_eq_getElem hlt)
    rw [List.drop_eq_getElem_cons hlt, any_consR]
    generalize s.data.toList[i] = b at hb
    simp only [slabvaultref09_Name.l0]
    rw [if_pos (by omega), if_pos (by omega), hb]
    by_cases h0 : b = 0
    · rw [if_pos ((byte_zero b).2 h0)]
      simp [h0]
    · rw [if_neg (fun e => h0 ((byte_zero b).1 e))]
      by_cases h47 : b = 47
      · rw [if_pos ((byte_slash b).2 h47)]
        simp [h47]
      · rw [if_neg (fun e => h47 ((byte_slash b).1 e)), wrap_nat i (by omega), ih (i + 1) k (by omega) (by omega) (by omega)]
        simp [h0, h47]
theorem ref_name (s : ByteArray) (k : Nat) (hk : 100 ≤ k) : slabvaultref09_Name.f k s = some (goodName s) := by
  have hz := Lib.size_eq s
  have hl := ByteArray.toList_eq s
  obtain ⟨k, rfl⟩ : ∃ m, k = m + 1 := ⟨k - 1, by omega⟩
  unfold slabvaultref09_Name.f goodName
  by_cases h1 : (s.size : Int) < 1
  · have h00 : s.data.toList.length = 0 := by omega
    have h0 : s.toList = [] := by rw [hl]; exact List.length_eq_zero_iff.1 h00
    rw [if_pos h1, h0]
    simp [slabvaultref09_Name.j0]
  · have he : s.toList.isEmpty = false := by
      rw [hl]
      cases h : s.data.toList with
      | nil => rw [h] at hz; have h00 : s.size = 0 := hz; omega
      | cons a t => rfl
    rw [if_neg h1, he]
    by_cases h2 : (s.size : Int) > 64
    · rw [if_pos h2]
      have : ¬ s.size ≤ 64 := by omega
      simp [slabvaultref09_Name.j0, this]
    · have h64 : s.size ≤ 64 := by omega
      rw [if_neg h2]
      by_cases h3 : s.toList = [46]
      · rw [if_pos h3, h3]
        simp [slabvaultref09_Name.j0]
      · have h3b : (s.toList == [46]) = false := by simpa using h3
        rw [if_neg h3, h3b]
        simp only [slabvaultref09_Name.j0]
        by_cases h4 : s.toList = [46, 46]
        · rw [h4]; simp
        · have h4b : (s.toList == [46, 46]) = false := by simpa using h4
          rw [h4b, if_neg (by simp)]
          have := nameLoop s (by omega) s.size 0 k (by omega) (by omega) (by omega)
          rw [show ((0 : Nat) : Int) = 0 from rfl] at this
          rw [this]
          simp [h64]
theorem cutL_cons_slash (l : List UInt8) : cutL (47 :: l) = [] :: cutL l := by simp [cutL]
theorem cutL_cons (b : UInt8) (l : List UInt8) (h : b ≠ 47) (p : List UInt8) (ps : List (List UInt8)) (hp : cutL l = p :: ps) : cutL (b :: l) = (b :: p) :: ps := by
  rw [show cutL (b :: l) = (if b = 47 then [] :: cutL l else match cutL l with | [] => [[b]] | p :: ps => (b :: p) :: ps) from rfl, if_neg h, hp]
theorem slice_mkB (s : ByteArray) (a b : Nat) : s.extract a b = mkB ((s.data.toList.drop a).take (b - a)) := by
  apply mkB_eq
  rw [data_mkB, Lib.extract_data]
theorem partsLoop (s : ByteArray) (hs : s.size < 1000000) : ∀ (d i k a : Nat) (acc : List ByteArray) (p : List UInt8) (ps : List (List UInt8)), s.size - i = d → i ≤ s.size → a ≤ i → d + 1 < k → acc.length ≤ i →
    cutL (s.data.toList.drop i) = p :: ps →
    slabvaultref17_parts.l0 k s acc (a : Int) (i : Int) = some (acc ++ mkB ((s.data.toList.drop a).take (i - a) ++ p) :: ps.map mkB) := by
  have hz := Lib.size_eq s
  intro d
  induction d with
  | zero =>
    intro i k a acc p ps hd hi ha hk hacc hc
    obtain ⟨k, rfl⟩ : ∃ m, k = m + 2 := ⟨k - 2, by omega⟩
    have : i = s.size := by omega
    subst this
    rw [List.drop_of_length_le (by omega)] at hc
    obtain ⟨rfl, rfl⟩ : [] = p ∧ [] = ps := by simpa [cutL] using hc
    simp only [slabvaultref17_parts.l0]
    rw [if_pos (by omega), if_true, if_pos (by omega), if_pos (by omega), if_pos (by omega), wrap_nat s.size (by omega), if_neg (by omega)]
    rw [show ((a : Int)).toNat = a from rfl, show ((s.size : Int)).toNat = s.size from rfl, slice_mkB]
    simp
  | succ d ih =>
    intro i k a acc p ps hd hi ha hk hacc hc
    obtain ⟨k, rfl⟩ : ∃ m, k = m + 1 := ⟨k - 1, by omega⟩
    have hlt : i < s.data.toList.length := by omega
    have hb := bt_nat s i (s.data.toList[i]) (List.getElem?_eq_getElem hlt)
    rw [List.drop_eq_getElem_cons hlt] at hc
    have htk : (s.data.toList.drop a).take (i + 1 - a) = (s.data.toList.drop a).take (i - a) ++ [s.data.toList[i]] := by
      have h1 : i + 1 - a = (i - a) + 1 := by omega
      have h2 : i - a < (s.data.toList.drop a).length := by rw [List.length_drop]; omega
      rw [h1, List.take_succ_eq_append_getElem h2]
      congr 2
      rw [List.getElem_drop]
      congr 1
      omega
    generalize s.data.toList[i] = b at hb hc htk
    obtain ⟨q, qs, hq⟩ : ∃ q qs, cutL (s.data.toList.drop (i + 1)) = q :: qs := by
      cases h : cutL (s.data.toList.drop (i + 1)) with
      | nil => exact absurd h (cutL_ne _)
      | cons q qs => exact ⟨q, qs, rfl⟩
    simp only [slabvaultref17_parts.l0]
    rw [if_pos (by omega), if_neg (by omega), if_pos (by omega), if_pos (by omega), hb]
    by_cases h47 : b = 47
    · subst h47
      rw [cutL_cons_slash, hq] at hc
      obtain ⟨rfl, rfl⟩ : [] = p ∧ q :: qs = ps := by simpa using hc
      rw [if_pos ((byte_slash 47).2 rfl), if_pos (by omega), if_pos (by omega), if_pos (by omega), wrap_nat i (by omega)]
      have := ih (i + 1) k (i + 1) (acc ++ [s.extract ((a : Int)).toNat ((i : Int)).toNat]) q qs (by omega) (by omega) (Nat.le_refl _) (by omega) (by simp; omega) hq
      rw [this, show ((a : Int)).toNat = a from rfl, show ((i : Int)).toNat = i from rfl, slice_mkB]
      simp
    · rw [cutL_cons b _ h47 q qs hq] at hc
      obtain ⟨rfl, rfl⟩ : b :: q = p ∧ qs = ps := by simpa using hc
      rw [if_neg (fun e => h47 ((byte_slash b).1 e)), wrap_nat i (by omega)]
      have := ih (i + 1) k a acc q qs (by omega) (by omega) (by omega) (by omega) (by omega) hq
      rw [this, htk]
      simp
theorem ref_parts (s : ByteArray) (h1 : 1 ≤ s.size) (hs : s.size < 1000000) (k : Nat) (hk : s.size < k) : slabvaultref17_parts.f k s = some (partsB (s.extract 1 s.size)) := by
  have hz := Lib.size_eq s
  obtain ⟨q, qs, hq⟩ : ∃ q qs, cutL (s.data.toList.drop 1) = q :: qs := by
    cases h : cutL (s.data.toList.drop 1) with
    | nil => exact absurd h (cutL_ne _)
    | cons q qs => exact ⟨q, qs, rfl⟩
  unfold slabvaultref17_parts.f
  have := partsLoop s hs (s.size - 1) 1 k 1 [] q qs rfl h1 (Nat.le_refl _) (by omega) (by simp) hq
  rw [show ((1 : Nat) : Int) = 1 from rfl] at this
  rw [this]
  unfold partsB
  rw [Lib.extract_data, show (s.data.toList.drop 1).take (s.size - 1) = s.data.toList.drop 1 from List.take_of_length_le (by rw [List.length_drop]; omega), hq]
  simp
def three : Except (Nat × Int) (List ByteArray) → List ByteArray × Int × Int
  | .ok l => (l, 0, 0)
  | .error (a, y) => ([], a, y)
theorem parseP_three (s : ByteArray) : parseP s = three (parseF s) := by
  unfold parseP three
  cases parseF s with
  | ok l => rfl
  | error p => rfl
theorem rdOf_nat (l : List ByteArray) (i : Nat) (h : i < l.length) : rdOf ByteArray.empty l (i : Int) = l[i] := by
  simp [rdOf, List.getD_eq_getElem?_getD, List.getElem?_eq_getElem h]
theorem parseLoop (x6 : List ByteArray) (hx : x6.length < 1000000) : ∀ (d i k : Nat) (acc : List ByteArray), x6.length - i = d → i ≤ x6.length → 2 * d + 110 < k → acc.length ≤ 16 →
    slabvaultref17_Parse.l0 k acc x6 (i : Int) = some (three (parseL acc (x6.drop i))) := by
  intro d
  induction d with
  | zero =>
    intro i k acc hd hi hk hacc
    obtain ⟨k, rfl⟩ : ∃ m, k = m + 1 := ⟨k - 1, by omega⟩
    simp only [slabvaultref17_Parse.l0]
    rw [if_neg (by omega), List.drop_of_length_le (by omega)]
    rfl
  | succ d ih =>
    intro i k acc hd hi hk hacc
    obtain ⟨k, rfl⟩ : ∃ m, k = m + 2 := ⟨k - 2, by omega⟩
    have hlt : i < x6.length := by omega
    have hrd := rdOf_nat x6 i hlt
    rw [List.drop_eq_getElem_cons hlt]
    generalize x6[i] = p at hrd
    have hpl : parseL acc (p :: x6.drop (i + 1)) = match parseStep acc p with | .ok a => parseL a (x6.drop (i + 1)) | .error e => .error e := rfl
    rw [hpl]
    have ih2 := fun acc' h' => ih (i + 1) k acc' (by omega) (by omega) (by omega) h'
    simp only [slabvaultref17_Parse.l0, slabvaultref17_Parse.j2]
    rw [if_pos (by omega), if_pos (by omega), hrd]
    unfold parseStep
    by_cases k1 : p.toList = []
    · rw [if_pos k1, k1]
      simp only [List.isEmpty_nil, if_true]
      rw [wrap_nat i (by omega)]
      exact ih2 acc hacc
    · have k1b : p.toList.isEmpty = false := by simpa using k1
      rw [if_neg k1, k1b]
      cases k2 : (p.toList == [46])
      · simp only [if_false, Bool.false_eq_true]
        rw [if_pos (by omega), if_pos (by omega), ref_name p k (by omega)]
        simp only [Option.bind_some]
        cases k3 : goodName p
        · simp [three]
        · simp only [if_true, if_false, Bool.true_eq_false]
          by_cases k4 : acc.length = 16
          · rw [if_pos (by omega), if_pos k4, k4]
            rfl
          · rw [if_neg (by omega), if_neg k4, if_pos (by omega), wrap_nat i (by omega)]
            exact ih2 (acc ++ [p]) (by simp; omega)
      · simp only [if_true, if_false, Bool.false_eq_true]
        rw [wrap_nat i (by omega)]
        exact ih2 acc hacc
theorem cutL_length : ∀ l : List UInt8, (cutL l).length ≤ l.length + 1
  | [] => by simp [cutL]
  | b :: l => by
    have ih := cutL_length l
    unfold cutL
    split
    · simp; omega
    · split
      · simp
      · rename_i h
        rw [h] at ih
        simp at ih ⊢
        omega
theorem ref_parse (s : ByteArray) (k : Nat) (hk : 5000 ≤ k) : slabvaultref17_Parse.f k s = some (parseP s) := by
  have hz := Lib.size_eq s
  obtain ⟨k, rfl⟩ : ∃ m, k = m + 1 := ⟨k - 1, by omega⟩
  rw [parseP_three]
  unfold slabvaultref17_Parse.f parseF
  by_cases h1 : 1024 < s.size
  · rw [if_pos (by omega), if_pos h1]
    rfl
  · rw [if_neg (by omega), if_neg h1]
    cases hd : s.data.toList with
    | nil =>
      rw [hd] at hz
      have h0 : s.size = 0 := hz
      rw [if_pos (by omega)]
      simp [slabvaultref17_Parse.j0, three, Lib.hasPrefix]
    | cons b t =>
      rw [hd] at hz
      have h0 : s.size = t.length + 1 := hz
      have hb : bt s 0 = (b.toNat : Int) := bt_nat s 0 b (by rw [hd]; rfl)
      rw [if_neg (by omega), if_pos (by omega), hb]
      by_cases h47 : b = 47
      · subst h47
        have hp : Lib.hasPrefix (47 :: t) [47] = true := by simp [Lib.hasPrefix]
        rw [hp, if_neg (by simp)]
        have hne : (((47 : UInt8).toNat : Int) != 47) = false := rfl
        rw [hne]
        simp only [slabvaultref17_Parse.j0]
        rw [if_neg (by simp), ref_parts s (by omega) (by omega) k (by omega)]
        simp only [Option.bind_some]
        have hle : (partsB (s.extract 1 s.size)).length ≤ 1026 := by
          unfold partsB
          rw [List.length_map]
          have := cutL_length (s.extract 1 s.size).data.toList
          rw [Lib.extract_data] at this
          rw [Lib.extract_data]
          simp only [List.length_take, List.length_drop, hd, List.length_cons] at this
          rw [hd]
          omega
        have := parseLoop (partsB (s.extract 1 s.size)) (by omega) _ 0 k [] rfl (by omega) (by omega) (by simp)
        rw [show ((0 : Nat) : Int) = 0 from rfl] at this
        rw [this, List.drop_zero]
      · have hp : Lib.hasPrefix (b :: t) [47] = false := by
          simp only [Lib.hasPrefix, List.isPrefixOf, Bool.and_true, beq_eq_false_iff_ne, ne_eq]
          rintro rfl
          exact h47 rfl
        rw [hp, if_pos rfl]
        have hne : ((b.toNat : Int) != 47) = true := by
          rw [bne_iff_ne]
          exact fun e => h47 ((byte_slash b).1 e)
        rw [hne]
        simp [slabvaultref17_Parse.j0, three]
theorem byte_lt (b c : UInt8) : ((b.toNat : Int) < (c.toNat : Int)) ↔ b < c := by rw [UInt8.lt_iff_toNat_lt]; omega
theorem cmpLoop (a b : ByteArray) (ha : a.size < 1000000) (hb : b.size < 1000000) : ∀ (d i k : Nat), a.size - i = d → i ≤ a.size → i ≤ b.size → 2 * d + 2 < k →
    ∃ r, slabvaultref07_CmpNames.l0 k a b (i : Int) = some r ∧ (r < 0 ↔ bytesBefore (a.data.toList.drop i) (b.data.toList.drop i) = true) := by
  have hz := Lib.size_eq a
  have hz2 := Lib.size_eq b
  intro d
  induction d with
  | zero =>
    intro i k hd hi hi2 hk
    obtain ⟨k, rfl⟩ : ∃ m, k = m + 2 := ⟨k - 2, by omega⟩
    have : i = a.size := by omega
    subst this
    simp only [slabvaultref07_CmpNames.l0, slabvaultref07_CmpNames.j1]
    rw [if_neg (by omega), if_neg (by simp)]
    rw [List.drop_of_length_le (by omega)]
    unfold slabvaultref07_sign.f
    have hw : wrap64 ((a.size : Int) - (b.size : Int)) = (a.size : Int) - (b.size : Int) := by unfold wrap64; omega
    rw [hw]
    by_cases h : a.size = b.size
    · rw [if_neg (by omega), if_neg (by omega), List.drop_of_length_le (by omega)]
      exact ⟨0, rfl, by simp [bytesBefore]⟩
    · rw [if_pos (by omega)]
      refine ⟨-1, rfl, ⟨fun _ => ?_, fun _ => by omega⟩⟩
      rw [List.drop_eq_getElem_cons (by omega : a.size < b.data.toList.length)]
      rfl
  | succ d ih =>
    intro i k hd hi hi2 hk
    obtain ⟨k, rfl⟩ : ∃ m, k = m + 2 := ⟨k - 2, by omega⟩
    have hlt : i < a.data.toList.length := by omega
    simp only [slabvaultref07_CmpNames.l0, slabvaultref07_CmpNames.j1]
    rw [if_pos (by omega)]
    by_cases h : i < b.size
    · have hlt2 : i < b.data.toList.length := by omega
      rw [decide_eq_true (by omega : (i : Int) < (b.size : Int)), if_pos rfl, if_pos (by omega), if_pos (by omega), if_pos (by omega)]
      rw [bt_nat a i _ (List.getElem?_eq_getElem hlt), bt_nat b i _ (List.getElem?_eq_getElem hlt2), List.drop_eq_getElem_cons hlt, List.drop_eq_getElem_cons hlt2]
      obtain ⟨r, hr, hr2⟩ := ih (i + 1) k (by omega) (by omega) (by omega) (by omega)
      generalize a.data.toList[i] = x
      generalize b.data.toList[i] = y
      by_cases h1 : x < y
      · rw [if_pos ((byte_lt x y).2 h1)]
        exact ⟨-1, rfl, by simp [bytesBefore, h1]⟩
      · rw [if_neg (fun e => h1 ((byte_lt x y).1 e))]
        by_cases h2 : y < x
        · rw [if_pos (show (x.toNat : Int) > (y.toNat : Int) from (byte_lt y x).2 h2)]
          refine ⟨1, rfl, ?_⟩
          have : ¬ x = y := by rintro rfl; exact h1 h2
          simp [bytesBefore, h1, this]
        · rw [if_neg (fun e => h2 ((byte_lt y x).1 e)), wrap_nat i (by omega)]
          have : x = y := by
            apply UInt8.toNat_inj.1
            rw [UInt8.lt_iff_toNat_lt] at h1 h2
            omega
          subst this
          refine ⟨r, hr, hr2.trans ?_⟩
          simp [bytesBefore, h1]
    · rw [decide_eq_false (by omega : ¬ (i : Int) < (b.size : Int)), if_neg (by simp)]
      have hw : wrap64 ((a.size : Int) - (b.size : Int)) = (a.size : Int) - (b.size : Int) := by unfold wrap64; omega
      unfold slabvaultref07_sign.f
      rw [hw, if_neg (by omega), if_pos (by omega), List.drop_of_length_le (by omega : b.data.toList.length ≤ i)]
      refine ⟨1, rfl, ?_⟩
      cases List.drop i a.data.toList <;> simp [bytesBefore]
theorem ref_cmp (a b : ByteArray) (ha : a.size < 1000000) (hb : b.size < 1000000) : ∃ r, slabvaultref07_CmpNames.f 3000000 a b = some r ∧ (r < 0 ↔ bytesBefore a.data.toList b.data.toList = true) := by
  obtain ⟨r, h1, h2⟩ := cmpLoop a b ha hb a.size 0 3000000 (by omega) (by omega) (by omega) (by omega)
  refine ⟨r, ?_, by simpa using h2⟩
  unfold slabvaultref07_CmpNames.f
  exact h1
end
end Go.Proofs.YthifdofdoeaemaaGreatDoor.Wk
end
section
namespace Go.Proofs.YthifdofdoeaemaaGreatDoor.Wk
open Go.RowKit Go.Proofs.YthifdofdoeaemaaGreatDoorW.PrintWords Go.Proofs.YthifdofdoeaemaaGreatDoorW.PrintLast Go.Proofs.YthifdofdoeaemaaGreatDoorW.PrintMore
attribute [local go_sem] max2_int min2_int max_two min_two max_three min_three max_four min_four
set_option linter.unusedVariables false
set_option linter.unusedSimpArgs false
section
open Go.RowKit Go.Lib Go.Maps Go.Proofs.YthifdofdoeaemaaGreatDoorQ
attribute [local go_sem] Oper.semAt_some
def ObjsR (W : World) (A : Option Addr) (l : List (Int × GO)) : Prop := 0 < l.length → ∃ b o, A = some ⟨b, o, none⟩ ∧ b < W.heap.size ∧ ∀ j x, l[j]? = some x → ∃ Ax cx, W.cell? ⟨b, o + j * 4, none⟩ = some (.int .i64 x.1) ∧ W.cell? ⟨b, o + j * 4 + 1, none⟩ = some (.int .i64 x.2.kind) ∧ W.cell? ⟨b, o + j * 4 + 2, none⟩ = some (.slice Ax x.2.links.length cx) ∧ W.cell? ⟨b, o + j * 4 + 3, none⟩ = some (.int .i64 x.2.held) ∧ x.2.links.length ≤ cx ∧ LinksR W Ax x.2.links
theorem ObjsR.at {W : World} {A : Option Addr} {l : List (Int × GO)} (h : ObjsR W A l) {j : Nat} {x : Int × GO} (hx : l[j]? = some x) : ∃ b o Ax cx, A = some ⟨b, o, none⟩ ∧ b < W.heap.size ∧ W.cell? ⟨b, o + j * 4, none⟩ = some (.int .i64 x.1) ∧ W.cell? ⟨b, o + j * 4 + 1, none⟩ = some (.int .i64 x.2.kind) ∧ W.cell? ⟨b, o + j * 4 + 2, none⟩ = some (.slice Ax x.2.links.length cx) ∧ W.cell? ⟨b, o + j * 4 + 3, none⟩ = some (.int .i64 x.2.held) ∧ x.2.links.length ≤ cx ∧ LinksR W Ax x.2.links := by
  obtain ⟨b, o, hA, hl, hc⟩ := h (Nat.lt_of_le_of_lt (Nat.zero_le _) (List.getElem?_eq_some_iff.1 hx).1)
  obtain ⟨Ax, cx, h1⟩ := hc j x hx
  exact ⟨b, o, Ax, cx, hA, hl, h1⟩
theorem ObjsR.below {W W' : World} {A : Option Addr} {l : List (Int × GO)} (h : ObjsR W A l) (hb : Below W.heap.size W W') : ObjsR W' A l := fun h0 => by
  obtain ⟨b, o, hA, hl, hc⟩ := h h0
  refine ⟨b, o, hA, Nat.lt_of_lt_of_le hl hb.size, fun j y hy => ?_⟩
  obtain ⟨Ax, cx, h1, h2, h3, h4, h5, h6⟩ := hc j y hy
  exact ⟨Ax, cx, (hb.cell (p := ⟨b, o + j * 4, none⟩) hl).trans h1, (hb.cell (p := ⟨b, o + j * 4 + 1, none⟩) hl).trans h2, (hb.cell (p := ⟨b, o + j * 4 + 2, none⟩) hl).trans h3, (hb.cell (p := ⟨b, o + j * 4 + 3, none⟩) hl).trans h4, h5, h6.below hb⟩
structure RefR (W : World) (g : Nat) (next : Int) (A : Option Addr) (c : Nat) (l : List (Int × GO)) : Prop where
  lt : g < W.heap.size
  c0 : W.cell? ⟨g, 0, none⟩ = some (.int .i64 next)
  c1 : W.cell? ⟨g, 1, none⟩ = some (.slice A l.length c)
  cap : l.length ≤ c
  objs : ObjsR W A l
theorem RefR.below {W W' : World} {g : Nat} {next : Int} {A : Option Addr} {c : Nat} {l : List (Int × GO)} (h : RefR W g next A c l) (hb : Below W.heap.size W W') : RefR W' g next A c l := ⟨Nat.lt_of_lt_of_le h.lt hb.size, (hb.cell (p := ⟨g, 0, none⟩) h.lt).trans h.c0, (hb.cell (p := ⟨g, 1, none⟩) h.lt).trans h.c1, h.cap, h.objs.below hb⟩
def AtP (l : List (Int × GO)) (id r : Int) : Prop := (∃ (i : Nat) (x : Int × GO), l[i]? = some x ∧ x.1 = id ∧ r = (i : Int)) ∨ (r = -1 ∧ ∀ x ∈ l, x.1 ≠ id)
set_option maxHeartbeats 4000000 in
set_option maxRecDepth 100000 in
theorem refAt_calls (w : World) (g : Nat) (next : Int) (A : Option Addr) (c : Nat) (l : List (Int × GO)) (id : Int) (hr : RefR w g next A c l) (hb : l.length ≤ bound) :
    Calls Tryz.prog 56 #[.pointer (some ⟨g, 0, none⟩), .int .i64 id] w fun e w' => ∃ r, AtP l id r ∧ e = .returned (.int .i64 r) ∧ w' = w := by
  have HR := Aside0.mk hr
  have HB := Aside0.mk hb
  have c1 := hr.c1
  clear hr hb
  go_enter Tryz.func56, Tryz.ntmps56
  go_wp2
  go_loopg [5] l.length (fun kq v5 W => ∃ (j : Nat) (jv : Int), v5 = .int .i64 jv ∧ Aside0 (jv = (j : Int)) ∧ Aside0 (j ≤ l.length ∧ l.length - j ≤ kq) ∧ Aside0 (∀ x ∈ l.take j, x.1 ≠ id) ∧ W = w)
  case atStart => exact ⟨0, 0, rfl, ⟨rfl⟩, ⟨by omega, by omega⟩, ⟨by simp⟩, rfl⟩
  case round =>
    obtain ⟨j, jv, rfl, HJV, HJ, HN, rfl⟩ := hrel
    by_cases hlt : j < l.length
    · obtain ⟨x, hx⟩ : ∃ x, l[j]? = some x := ⟨_, List.getElem?_eq_getElem hlt⟩
      obtain ⟨b, o, Ax, cx, rfl, -, x1, -, -, -, -, -⟩ := HR.out.objs.at hx
      have q1 : decide (jv < (l.length : Int)) = true := decide_eq_true (by have := HJV.out; omega)
      have q2 : (jv < (l.length : Int)) = True := eq_true (by have := HJV.out; omega)
      have q3 : (0 : Int) ≤ jv := by have := HJV.out; omega
      have q4 : jv.toNat = j := by have := HJV.out; omega
      have w1_ : wrap64 (jv + 1) = jv + 1 := wrap_ok9 _ (by omega) (by have := HJV.out; have := HB.out; unfold bound at this; omega)
      have HLT := Aside0.mk hlt
      have HX := Aside0.mk hx
      clear hx hlt
      by_cases he : x.1 = id
      · have e1 : (x.1 == id) = true := by simpa using he
        have HE := Aside0.mk he
        clear he
        go_wp2
        go_ret
        exact ⟨jv, .inl ⟨j, x, HX.out, HE.out, HJV.out⟩, rfl, rfl⟩
      · have e1 : (x.1 == id) = false := by simpa using he
        have HE := Aside0.mk he
        clear he
        go_wp2
        clear q4
        go_roundg (gk - 1)
        case measure => have := HJ.out; have := HLT.out; omega
        case rel => exact ⟨j + 1, jv + 1, by first | rfl | rw [w1_], ⟨by have := HJV.out; omega⟩, ⟨by have := HLT.out; omega, by have := HJ.out; omega⟩, ⟨fun z hz => by
          rw [List.take_add_one, HX.out] at hz
          rcases List.mem_append.1 hz with hz | hz
          · exact HN.out z hz
          · obtain rfl : z = x := by simpa using hz
            exact HE.out⟩, rfl⟩
    · have q1 : decide (jv < (l.length : Int)) = false := decide_eq_false (by have := HJV.out; omega)
      have q2 : (jv < (l.length : Int)) = False := eq_false (by have := HJV.out; omega)
      have HLT := Aside0.mk hlt
      clear hlt
      go_wp2
      go_ret
      exact ⟨-1, .inr ⟨rfl, by have := HN.out; rw [List.take_of_length_le (by have := HLT.out; omega)] at this; exact this⟩, rfl, rfl⟩
theorem sumO_takeS {f : GO → Nat} {l : List (Int × GO)} {j : Nat} {x : Int × GO} (hx : l[j]? = some x) : sumO f (l.take (j + 1)) = sumO f (l.take j) + f x.2 := by
  rw [List.take_add_one, hx]
  unfold sumO
  simp
set_option maxHeartbeats 4000000 in
set_option maxRecDepth 100000 in
theorem refLinks_calls (w : World) (g : Nat) (next : Int) (A : Option Addr) (c : Nat) (l : List (Int × GO)) (hr : RefR w g next A c l) (hb : l.length ≤ bound) (hs : sumO lenO l ≤ 1000000000) :
    Calls Tryz.prog 54 #[.pointer (some ⟨g, 0, none⟩)] w fun e w' => e = .returned (.int .i64 ((sumO lenO l : Nat) : Int)) ∧ w' = w := by
  have HR := Aside0.mk hr
  have HB := Aside0.mk hb
  have HS := Aside0.mk hs
  have c1 := hr.c1
  clear hr hb hs
  go_enter Tryz.func54, Tryz.ntmps54
  go_wp2
  go_loopg [3, 4] l.length (fun kq v3 v4 W => ∃ (j : Nat) (jv nv : Int), v3 = .int .i64 nv ∧ v4 = .int .i64 jv ∧ Aside0 (jv = (j : Int)) ∧ Aside0 (nv = ((sumO lenO (l.take j) : Nat) : Int)) ∧ Aside0 (j ≤ l.length ∧ l.length - j ≤ kq) ∧ W = w)
  case atStart => exact ⟨0, 0, 0, rfl, rfl, ⟨rfl⟩, ⟨rfl⟩, ⟨by omega, by omega⟩, rfl⟩
  case round =>
    obtain ⟨j, jv, nv, rfl, rfl, HJV, HNV, HJ, rfl⟩ := hrel
    by_cases hlt : j < l.length
    · obtain ⟨x, hx⟩ : ∃ x, l[j]? = some x := ⟨_, List.getElem?_eq_getElem hlt⟩
      obtain ⟨b, o, Ax, cx, rfl, -, -, -, x1, -, -, -⟩ := HR.out.objs.at hx
      have q1 : decide (jv < (l.length : Int)) = true := decide_eq_true (by have := HJV.out; omega)
      have q2 : (jv < (l.length : Int)) = True := eq_true (by have := HJV.out; omega)
      have q3 : (0 : Int) ≤ jv := by have := HJV.out; omega
      have q4 : jv.toNat = j := by have := HJV.out; omega
      have w1_ : wrap64 (jv + 1) = jv + 1 := wrap_ok9 _ (by omega) (by have := HJV.out; have := HB.out; unfold bound at this; omega)
      have hst : sumO lenO (l.take (j + 1)) = sumO lenO (l.take j) + x.2.links.length := sumO_takeS hx
      have hle := sumO_take_le lenO l (j + 1)
      have w2_ : wrap64 (nv + (x.2.links.length : Int)) = nv + (x.2.links.length : Int) := wrap_ok9 _ (by have := HNV.out; omega) (by have := HNV.out; have := HS.out; omega)
      have HLT := Aside0.mk hlt
      have HST := Aside0.mk hst
      clear hx hlt hst hle
      go_wp2
      clear q4
      go_roundg (gk - 1)
      case measure => have := HJ.out; have := HLT.out; omega
      case rel => exact ⟨j + 1, jv + 1, nv + (x.2.links.length : Int), by first | rfl | rw [w2_], by first | rfl | rw [w1_], ⟨by have := HJV.out; omega⟩, ⟨by have := HST.out; have := HNV.out; omega⟩, ⟨by have := HLT.out; omega, by have := HJ.out; omega⟩, rfl⟩
    · have q1 : decide (jv < (l.length : Int)) = false := decide_eq_false (by have := HJV.out; omega)
      have q2 : (jv < (l.length : Int)) = False := eq_false (by have := HJV.out; omega)
      have HLT := Aside0.mk hlt
      clear hlt
      go_wp2
      go_ret
      exact ⟨by have h1 := HNV.out; rw [List.take_of_length_le (by have := HLT.out; omega)] at h1; rw [h1]; rfl, rfl⟩
theorem cntL_takeS {id : Int} {l : List Lk} {j : Nat} {k : Lk} (hk : l[j]? = some k) : cntL id (l.take (j + 1)) = cntL id (l.take j) + (if k.2.1 = id then 1 else 0) := by
  rw [List.take_add_one, hk]
  unfold cntL
  rw [List.countP_append]
  simp [List.countP_cons]
theorem cntL_le (id : Int) (l : List Lk) : cntL id l ≤ l.length := List.countP_le_length
set_option maxHeartbeats 4000000 in
set_option maxRecDepth 100000 in
theorem refLeads_calls (w : World) (g : Nat) (next : Int) (A : Option Addr) (c : Nat) (l : List (Int × GO)) (id : Int) (hr : RefR w g next A c l) (hb : l.length ≤ bound) (hs : sumO lenO l ≤ 1000000000) :
    Calls Tryz.prog 57 #[.pointer (some ⟨g, 0, none⟩), .int .i64 id] w fun e w' => e = .returned (.int .i64 ((sumO (cntO id) l : Nat) : Int)) ∧ w' = w := by
  have HR := Aside0.mk hr
  have HB := Aside0.mk hb
  have HS := Aside0.mk hs
  have c1 := hr.c1
  clear hr hb hs
  go_enter Tryz.func57, Tryz.ntmps57
  go_wp2
  go_loopg [5, 6] l.length (fun kq v5 v6 W => ∃ (j : Nat) (jv nv : Int), v5 = .int .i64 nv ∧ v6 = .int .i64 jv ∧ Aside0 (jv = (j : Int)) ∧ Aside0 (nv = ((sumO (cntO id) (l.take j) : Nat) : Int)) ∧ Aside0 (j ≤ l.length ∧ l.length - j ≤ kq) ∧ W = w)
  case atStart => exact ⟨0, 0, 0, rfl, rfl, ⟨rfl⟩, ⟨rfl⟩, ⟨by omega, by omega⟩, rfl⟩
  case round =>
    obtain ⟨j, jv, nv, rfl, rfl, HJV, HNV, HJ, rfl⟩ := hrel
    by_cases hlt : j < l.length
    · obtain ⟨x, hx⟩ : ∃ x, l[j]? = some x := ⟨_, List.getElem?_eq_getElem hlt⟩
      obtain ⟨b, o, Ax, cx, rfl, -, -, -, x1, -, -, xr⟩ := HR.out.objs.at hx
      have HXR := Aside0.mk xr
      have q1 : decide (jv < (l.length : Int)) = true := decide_eq_true (by have := HJV.out; omega)
      have q2 : (jv < (l.length : Int)) = True := eq_true (by have := HJV.out; omega)
      have q3 : (0 : Int) ≤ jv := by have := HJV.out; omega
      have q4 : jv.toNat = j := by have := HJV.out; omega
      have w1_ : wrap64 (jv + 1) = jv + 1 := wrap_ok9 _ (by omega) (by have := HJV.out; have := HB.out; unfold bound at this; omega)
      have HST : Aside0 (sumO (cntO id) (l.take (j + 1)) = sumO (cntO id) (l.take j) + cntL id x.2.links) := ⟨sumO_takeS hx⟩
      have hxl : x.2.links.length ≤ sumO lenO l := le_sumO lenO (List.mem_of_getElem? hx)
      have hsl : sumO (cntO id) (l.take j) ≤ sumO lenO l := Nat.le_trans (sumO_take_le (cntO id) l j) (sumO_cnt_le id l)
      have HXL := Aside0.mk (And.intro hxl hsl)
      have HLT := Aside0.mk hlt
      clear hx hlt xr hxl hsl
      obtain ⟨gk0, HGK⟩ : ∃ gk0, Aside0 (gk0 = gk) := ⟨_, ⟨rfl⟩⟩
      go_wp2
      go_loopg [5, 7] x.2.links.length (fun kq v5 v7 W => ∃ (m : Nat) (mv nv2 : Int), v5 = .int .i64 nv2 ∧ v7 = .int .i64 mv ∧ Aside0 (mv = (m : Int)) ∧ Aside0 (nv2 = nv + ((cntL id (x.2.links.take m) : Nat) : Int)) ∧ Aside0 (m ≤ x.2.links.length ∧ x.2.links.length - m ≤ kq) ∧ W = wr)
      case atStart => exact ⟨0, 0, nv, rfl, rfl, ⟨rfl⟩, ⟨by simp [cntL]⟩, ⟨by omega, by omega⟩, rfl⟩
      case round =>
        obtain ⟨m, mv, nv2, rfl, rfl, HMV, HN2, HM, rfl⟩ := hrel
        by_cases hmt : m < x.2.links.length
        · obtain ⟨k, hk⟩ : ∃ k, x.2.links[m]? = some k := ⟨_, List.getElem?_eq_getElem hmt⟩
          obtain ⟨b2, o2, rfl, -, -, k1, -⟩ := HXR.out.at hk
          have p1 : decide (mv < (x.2.links.length : Int)) = true := decide_eq_true (by have := HMV.out; omega)
          have p2 : (mv < (x.2.links.length : Int)) = True := eq_true (by have := HMV.out; omega)
          have p3 : (0 : Int) ≤ mv := by have := HMV.out; omega
          have p4 : mv.toNat = m := by have := HMV.out; omega
          have w2_ : wrap64 (mv + 1) = mv + 1 := wrap_ok9 _ (by omega) (by have := HMV.out; have := HS.out; have := HXL.out; omega)
          have hcl : cntL id (x.2.links.take m) ≤ x.2.links.length := Nat.le_trans (cntL_le id _) (by rw [List.length_take]; omega)
          have w3_ : wrap64 (nv2 + 1) = nv2 + 1 := wrap_ok9 _ (by have := HN2.out; have := HNV.out; omega) (by have := HN2.out; have := HNV.out; have := HS.out; have := HXL.out; omega)
          have HCS : Aside0 (cntL id (x.2.links.take (m + 1)) = cntL id (x.2.links.take m) + (if k.2.1 = id then 1 else 0)) := ⟨cntL_takeS hk⟩
          have HMT := Aside0.mk hmt
          clear hk hmt hcl
          by_cases he : k.2.1 = id
          · have e1 : (k.2.1 == id) = true := by simpa using he
            have HE := Aside0.mk he
            clear he
            go_wp2
            clear p4
            go_roundg (gk - 1)
            case measure => have := HM.out; have := HMT.out; omega
            case rel => exact ⟨m + 1, mv + 1, nv2 + 1, by first | rfl | rw [w3_], by first | rfl | rw [w2_], ⟨by have := HMV.out; omega⟩, ⟨by have := HCS.out; rw [if_pos HE.out] at this; have := HN2.out; omega⟩, ⟨by have := HMT.out; omega, by have := HM.out; omega⟩, rfl⟩
          · have e1 : (k.2.1 == id) = false := by simpa using he
            have HE := Aside0.mk he
            clear he
            go_wp2
            clear p4
            go_roundg (gk - 1)
            case measure => have := HM.out; have := HMT.out; omega
            case rel => exact ⟨m + 1, mv + 1, nv2, by first | rfl, by first | rfl | rw [w2_], ⟨by have := HMV.out; omega⟩, ⟨by have := HCS.out; rw [if_neg HE.out] at this; have := HN2.out; omega⟩, ⟨by have := HMT.out; omega, by have := HM.out; omega⟩, rfl⟩
        · have p1 : decide (mv < (x.2.links.length : Int)) = false := decide_eq_false (by have := HMV.out; omega)
          have p2 : (mv < (x.2.links.length : Int)) = False := eq_false (by have := HMV.out; omega)
          have HMT := Aside0.mk hmt
          clear hmt
          go_wp2
          clear q4
          go_roundg (gk0 - 1)
          case measure => have := HJ.out; have := HLT.out; have := HGK.out; omega
          case rel => exact ⟨j + 1, jv + 1, nv2, by first | rfl, by first | rfl | rw [w1_], ⟨by have := HJV.out; omega⟩, ⟨by have h1 := HN2.out; rw [List.take_of_length_le (by have := HMT.out; omega)] at h1; have := HST.out; have := HNV.out; omega⟩, ⟨by have := HLT.out; omega, by have := HJ.out; have := HGK.out; omega⟩, rfl⟩
    · have q1 : decide (jv < (l.length : Int)) = false := decide_eq_false (by have := HJV.out; omega)
      have q2 : (jv < (l.length : Int)) = False := eq_false (by have := HJV.out; omega)
      have HLT := Aside0.mk hlt
      clear hlt
      go_wp2
      go_ret
      exact ⟨by have h1 := HNV.out; rw [List.take_of_length_le (by have := HLT.out; omega)] at h1; rw [h1]; rfl, rfl⟩
end
end Go.Proofs.YthifdofdoeaemaaGreatDoor.Wk
end
section
namespace Go.Proofs.YthifdofdoeaemaaGreatDoor.Wk
open Go.RowKit Go.Proofs.YthifdofdoeaemaaGreatDoorW.PrintWords Go.Proofs.YthifdofdoeaemaaGreatDoorW.PrintLast Go.Proofs.YthifdofdoeaemaaGreatDoorW.PrintMore
attribute [local go_sem] max2_int min2_int max_two min_two max_three min_three max_four min_four
set_option linter.unusedVariables false
set_option linter.unusedSimpArgs false
section
open Go.RowKit Go.Lib Go.Maps Go.Proofs.YthifdofdoeaemaaGreatDoorQ
attribute [local go_sem] Oper.semAt_some
theorem rcmp_calls (a b : ByteArray) (r : Int) (h : slabvaultref07_CmpNames.f 3000000 a b = some r) (w : World) : Calls Tryz.prog 83 #[.string a, .string b] w fun e w' => e = .returned (.int .i64 r) ∧ ∃ m, w' = w.drewN m :=
  (slabvaultref07_CmpNames.calls 3000000 a b r w h).mono fun _ _ h => ⟨h.1, let ⟨⟨m, hm⟩⟩ := h.2; ⟨m, hm⟩⟩
theorem rparse_calls (s : ByteArray) (l : List ByteArray) (a y : Int) (h : parseP s = (l, a, y)) (w : World) : Calls Tryz.prog 84 #[.string s] w fun e w' => ∃ v, e = .returned (.tuple #[v, .int .i64 a, .int .i64 y]) ∧ Kd.R Kd.string 9 w' w.heap.size (fun _ => True) v l ∧ Below w.heap.size w w' :=
  (slabvaultref17_Parse.calls 5000 s l a y w (by rw [ref_parse s 5000 (Nat.le_refl _), h])).mono fun _ _ h => h
theorem good_small {s : ByteArray} (h : goodName s = true) : s.size ≤ 64 := by
  unfold goodName at h
  simp only [Bool.and_eq_true, decide_eq_true_eq] at h
  exact h.1.1.1.2
theorem below_dn3 {w : World} {n m : Nat} (h : n ≤ w.heap.size) : Below n w (w.drewN m) := (below_dn2 w m).mono h
end
end Go.Proofs.YthifdofdoeaemaaGreatDoor.Wk
end
section
namespace Go.Proofs.YthifdofdoeaemaaGreatDoor.Wk
open Go.RowKit Go.Proofs.YthifdofdoeaemaaGreatDoorW.PrintWords Go.Proofs.YthifdofdoeaemaaGreatDoorW.PrintLast Go.Proofs.YthifdofdoeaemaaGreatDoorW.PrintMore
attribute [local go_sem] max2_int min2_int max_two min_two max_three min_three max_four min_four
set_option linter.unusedVariables false
set_option linter.unusedSimpArgs false
section
open Go.RowKit Go.Lib Go.Maps Go.Proofs.YthifdofdoeaemaaGreatDoorQ
attribute [local go_sem] Oper.semAt_some
def falses (bl : List Bool) : Nat := bl.countP (fun b => !b)
theorem falses_set : ∀ {bl : List Bool} {n : Nat}, bl[n]? = some false → falses (bl.set n true) + 1 = falses bl
  | [], _, h => by cases h
  | b :: t, 0, h => by cases h; simp [falses]
  | b :: t, n + 1, h => by
    have := falses_set (bl := t) (n := n) (by simpa using h)
    unfold falses at this ⊢
    rw [List.set_cons_succ, List.countP_cons, List.countP_cons]
    omega
theorem falses_le (bl : List Bool) : falses bl ≤ bl.length := List.countP_le_length
def DoneTo (l : List (Int × GO)) (bl : List Bool) (j k : Nat) : Prop := ∀ (x : Int × GO), l[j]? = some x → bl[j]? = some true → ∀ (m : Nat) (z : Lk), m < k → x.2.links[m]? = some z → ∀ (n : Nat) (y : Int × GO), l[n]? = some y → y.1 = z.2.1 → bl[n]? = some true
structure ReB (l : List (Int × GO)) (bl : List Bool) : Prop where
  len : bl.length = l.length
  sound : ∀ (i : Nat) (x : Int × GO), l[i]? = some x → bl[i]? = some true → Rch (grL l) x.1
  root : ∀ (i : Nat) (x : Int × GO), l[i]? = some x → x.1 = 1 → bl[i]? = some true
def ReO (l : List (Int × GO)) (bl : List Bool) (av : Bool) (kq : Nat) : Prop := ReB l bl ∧ (av = true ∧ falses bl + 1 ≤ kq ∨ av = false ∧ ∀ j k, DoneTo l bl j k)
def ReI (l : List (Int × GO)) (bl0 : List Bool) (i k : Nat) (bl : List Bool) (av : Bool) : Prop := ReB l bl ∧ (av = true ∧ falses bl < falses bl0 ∨ av = false ∧ bl = bl0 ∧ (∀ j k, j < i → DoneTo l bl j k) ∧ DoneTo l bl i k)
theorem re_start {l : List (Int × GO)} {bl : List Bool} (h : ReB l bl) : ReI l bl 0 0 bl false := ⟨h, .inr ⟨rfl, rfl, fun j k hj => (by omega), fun x _ _ m z hm => (by omega)⟩⟩
theorem re_old {l : List (Int × GO)} {bl0 bl : List Bool} {i k : Nat} {av : Bool} (ha : Asc l) (h : ReI l bl0 i k bl av) {x : Int × GO} (hx : l[i]? = some x) {z : Lk} (hz : x.2.links[k]? = some z) {r : Int} (hr : AtP l z.2.1 r) (ho : r < 0 ∨ ∃ n : Nat, r = (n : Int) ∧ bl[n]? = some true) : ReI l bl0 i (k + 1) bl av := by
  refine ⟨h.1, h.2.imp id (fun ⟨h1, h2, h3, h4⟩ => ⟨h1, h2, h3, fun x' hx' hb m z' hm hz' n y hn hy => ?_⟩)⟩
  by_cases hmk : m < k
  · exact h4 x' hx' hb m z' hmk hz' n y hn hy
  · have hme : m = k := by omega
    subst hme
    rw [hx] at hx'
    cases hx'
    rw [hz] at hz'
    cases hz'
    rcases hr with ⟨i', y', h5, h6, h7⟩ | ⟨-, h5⟩
    · have hnn : i' = n := by
        have e1 := (List.getElem?_eq_some_iff.1 h5).1
        have e2 := (List.getElem?_eq_some_iff.1 hn).1
        have e3 := (List.getElem?_eq_some_iff.1 h5).2
        have e4 := (List.getElem?_eq_some_iff.1 hn).2
        rcases Nat.lt_trichotomy i' n with h | h | h
        · have := asc_get ha h e2; rw [e3, e4] at this; omega
        · exact h
        · have := asc_get ha h e1; rw [e3, e4] at this; omega
      subst hnn
      rcases ho with ho | ⟨n', h8, h9⟩
      · omega
      · have : n' = i' := by omega
        rw [← this]; exact h9
    · exact absurd hy (h5 y (List.mem_of_getElem? hn))
theorem re_new {l : List (Int × GO)} {bl0 bl : List Bool} {i k : Nat} {av : Bool} (hp : ∀ x ∈ l, 0 < x.1) (h : ReI l bl0 i k bl av) {x : Int × GO} (hx : l[i]? = some x) (hb : bl[i]? = some true) {z : Lk} (hz : x.2.links[k]? = some z) {n : Nat} {y : Int × GO} (hn : l[n]? = some y) (hy : y.1 = z.2.1) (hf : bl[n]? = some false) : ReI l bl0 i (k + 1) (bl.set n true) true := by
  have hs := falses_set hf
  refine ⟨⟨by rw [List.length_set]; exact h.1.len, fun j x' hj hb' => ?_, fun j x' hj h1 => ?_⟩, .inl ⟨rfl, ?_⟩⟩
  · by_cases e : n = j
    · subst e
      rw [hn] at hj
      cases hj
      rw [hy]
      exact Rch.step (o := x.2) (h.1.sound i x hx hb) (List.mem_of_getElem? hx) (List.mem_of_getElem? hz) (by rw [← hy]; exact hp _ (List.mem_of_getElem? hn))
    · rw [List.getElem?_set_ne e] at hb'
      exact h.1.sound j x' hj hb'
  · by_cases e : n = j
    · subst e
      rw [List.getElem?_set_self (by rw [h.1.len]; exact (List.getElem?_eq_some_iff.1 hn).1)]
    · rw [List.getElem?_set_ne e]
      exact h.1.root j x' hj h1
  · rcases h.2 with ⟨-, h1⟩ | ⟨-, h1, -⟩
    · omega
    · subst h1; omega
theorem re_next {l : List (Int × GO)} {bl0 bl : List Bool} {i k : Nat} {av : Bool} (h : ReI l bl0 i k bl av) {x : Int × GO} (hx : l[i]? = some x) (hk : x.2.links.length ≤ k ∨ bl[i]? = some false) : ReI l bl0 (i + 1) 0 bl av := by
  refine ⟨h.1, h.2.imp id (fun ⟨h1, h2, h3, h4⟩ => ⟨h1, h2, fun j m hj => ?_, fun _ _ _ m _ hm => (by omega)⟩)⟩
  by_cases e : j < i
  · exact h3 j m e
  · have : j = i := by omega
    subst this
    intro x' hx' hb m' z hm hz
    rw [hx] at hx'
    cases hx'
    rcases hk with hk | hk
    · exact h4 _ hx hb m' z (by have := (List.getElem?_eq_some_iff.1 hz).1; omega) hz
    · rw [hk] at hb; cases hb
theorem re_again {l : List (Int × GO)} {bl0 bl : List Bool} {i k kq : Nat} {av : Bool} (h : ReI l bl0 i k bl av) (hi : l.length ≤ i) (hk : falses bl0 ≤ kq) : ReO l bl av kq := by
  refine ⟨h.1, h.2.imp (fun ⟨h1, h2⟩ => ⟨h1, by omega⟩) (fun ⟨h1, h2, h3, h4⟩ => ⟨h1, fun j m x hx => ?_⟩)⟩
  exact h3 j m (by have := (List.getElem?_eq_some_iff.1 hx).1; omega) x hx
theorem re_end {l : List (Int × GO)} {bl : List Bool} {kq : Nat} (h : ReO l bl false kq) (h1 : has l 1) {i : Nat} {x : Int × GO} (hx : l[i]? = some x) (ha : Asc l) : bl[i]? = some true ↔ Rch (grL l) x.1 := by
  refine ⟨h.1.sound i x hx, fun hr => ?_⟩
  have hd : ∀ j k, DoneTo l bl j k := h.2.elim (fun h => by cases h.1) (fun h => h.2)
  have : ∀ id, Rch (grL l) id → ∀ (i : Nat) (x : Int × GO), l[i]? = some x → x.1 = id → bl[i]? = some true := fun id hr => by
    induction hr with
    | root => exact fun i x hx h2 => h.1.root i x hx h2
    | step _ ho hk _ ih =>
      intro i x hx h2
      obtain ⟨j, hj⟩ := List.mem_iff_getElem?.1 ho
      obtain ⟨m, hm⟩ := List.mem_iff_getElem?.1 hk
      exact hd j (m + 1) _ hj (ih j _ hj rfl) m _ (Nat.lt_succ_self m) hm i x hx h2
  exact this x.1 hr i x hx rfl
theorem at_has {l : List (Int × GO)} {id r : Int} (h : AtP l id r) (hh : has l id) : ∃ (n : Nat) (x : Int × GO), l[n]? = some x ∧ x.1 = id ∧ r = (n : Int) ∧ n < l.length := by
  rcases h with ⟨n, x, h1, h2, h3⟩ | ⟨-, h1⟩
  · exact ⟨n, x, h1, h2, h3, (List.getElem?_eq_some_iff.1 h1).1⟩
  · obtain ⟨o, ho⟩ := hh
    exact absurd rfl (h1 _ ho)
def BoolsAt (W : World) (b : Nat) (bl : List Bool) : Prop := W.heap[b]? = some (.cells (bl.map Value.bool).toArray 4 (0, 0))
theorem BoolsAt.cell {W : World} {b : Nat} {bl : List Bool} (h : BoolsAt W b bl) {j : Nat} {v : Bool} (hj : bl[j]? = some v) : W.cell? ⟨b, j, none⟩ = some (.bool v) := (blk_cell h j).trans (by simp [hj])
theorem BoolsAt.set {W : World} {b : Nat} {bl : List Bool} (h : BoolsAt W b bl) (j : Nat) (v : Bool) : BoolsAt (W.setCell ⟨b, j, none⟩ (.bool v)) b (bl.set j v) := (blk_set h j _).trans (by simp [List.map_set])
theorem bools_made (W : World) (n : Nat) : BoolsAt (W.alloc (.cells (madeCells #[.bool false] n) 4 (0, 0))) W.heap.size (List.replicate n false) := by
  unfold BoolsAt
  rw [World.alloc_heap_new]
  congr 2
  apply Array.ext
  · simp [madeCells]
  · intro i h1 h2
    simp [madeCells, Nat.mod_one]
theorem reB_start {l : List (Int × GO)} (ha : Asc l) {n : Nat} {x : Int × GO} (hn : l[n]? = some x) (h1 : x.1 = 1) : ReB l ((List.replicate l.length false).set n true) := by
  have key : ∀ (i : Nat) (y : Int × GO), l[i]? = some y → (((List.replicate l.length false).set n true)[i]? = some true ↔ i = n) := fun i y hy => by
    have hi := (List.getElem?_eq_some_iff.1 hy).1
    by_cases e : n = i
    · subst e
      rw [List.getElem?_set_self (by simpa using hi)]
      simp
    · rw [List.getElem?_set_ne e]
      simp [hi]
      omega
  refine ⟨by simp, fun i y hy hb => ?_, fun i y hy h2 => (key i y hy).2 ?_⟩
  · have e := (key i y hy).1 hb
    subst e
    rw [hn] at hy
    cases hy
    rw [h1]
    exact .root
  · have e1 := (List.getElem?_eq_some_iff.1 hn).1
    have e2 := (List.getElem?_eq_some_iff.1 hy).1
    have e3 := (List.getElem?_eq_some_iff.1 hn).2
    have e4 := (List.getElem?_eq_some_iff.1 hy).2
    rcases Nat.lt_trichotomy n i with h | h | h
    · have := asc_get ha h e2; rw [e3, e4] at this; omega
    · exact h.symm
    · have := asc_get ha h e1; rw [e3, e4] at this; omega
set_option maxHeartbeats 8000000 in
set_option maxRecDepth 100000 in
theorem refReached_calls (w : World) (g : Nat) (next : Int) (A : Option Addr) (c : Nat) (l : List (Int × GO)) (hr : RefR w g next A c l) (ha : Asc l) (hp : ∀ x ∈ l, 0 < x.1) (h1 : has l 1) (hb : l.length ≤ 1000) (hlb : ∀ x ∈ l, x.2.links.length ≤ bound) :
    Calls Tryz.prog 55 #[.pointer (some ⟨g, 0, none⟩)] w fun e w' => ∃ wb bl, e = .returned (.slice (some ⟨wb, 0, none⟩) l.length l.length) ∧ w.heap.size ≤ wb ∧ BoolsAt w' wb bl ∧ bl.length = l.length ∧ (∀ (i : Nat) x, l[i]? = some x → (bl[i]? = some true ↔ Rch (grL l) x.1)) ∧ Below w.heap.size w w' := by
  have HR := Aside0.mk hr
  have HA := Aside0.mk ha
  have HP := Aside0.mk hp
  have H1 := Aside0.mk h1
  have HB := Aside0.mk hb
  have HLB := Aside0.mk hlb
  have c1 := hr.c1
  have hmk : ∀ W : World, (Instr.makeSlice 107 (.int .i64 (l.length : Int)) (.int .i64 (l.length : Int))).run Tryz.prog W = .ok (.slice (some ⟨W.heap.size, 0, none⟩) l.length l.length) (W.alloc (.cells (madeCells #[.bool false] l.length) 4 (0, 0))) := by
    intro W
    have := print_make_int (P := Tryz.prog) 107 4 (.bool false) 1 Tryz.underlying107 (by kernel_rfl) rfl (by omega) l.length (by omega) (by omega) W
    simpa using this
  obtain ⟨o1, ho1⟩ := h1
  obtain ⟨W1, hW1⟩ : ∃ W1, W1 = w.alloc (.cells (madeCells #[.bool false] l.length) 4 (0, 0)) := ⟨_, rfl⟩
  have hb1 : Below w.heap.size w W1 := by rw [hW1]; exact below_alloc (Below.refl _ _) _
  have hB1 : BoolsAt W1 w.heap.size (List.replicate l.length false) := by rw [hW1]; exact bools_made w _
  have HW1 := Aside0.mk hW1
  have HB1 := Aside0.mk hb1
  have HBA := Aside0.mk hB1
  have HR1 := Aside0.mk (hr.below hb1)
  obtain ⟨wb, hwb⟩ : ∃ wb, wb = w.heap.size := ⟨_, rfl⟩
  have HWB := Aside0.mk hwb
  clear hr ha hp hb hlb hb1 hB1 hW1 ho1
  go_enter Tryz.func55, Tryz.ntmps55
  go_upto_region 2 with (fail)
  rw [← HW1.out, ← hwb]
  clear hmk hwb c1
  go_upto_region 3 with (go_at_call 56; refine (refAt_calls _ g next A c l 1 HR1.out (by have := HB.out; unfold bound; omega)).mono ?_; rintro e_ w2 ⟨r, hra, rfl, rfl⟩; obtain ⟨n0, x0, hn0, hx0, hrn, hnl⟩ := at_has hra H1.out; have a1 : (0 : Int) ≤ r := (by omega); have a2 : r < (l.length : Int) := (by omega); have a3 : r.toNat = n0 := (by omega); have HN0 := Aside0.mk (And.intro hn0 hx0); clear hra hn0 hx0 hrn hnl; have hB2 : BoolsAt w2 wb (List.replicate l.length false) := (by rw [HWB.out]; exact HBA.out); have f1 : w2.frozen? ⟨wb, n0, none⟩ = false := blk_frozen hB2 n0; have f2 : w2.cell? ⟨wb, n0, none⟩ = some (.bool false) := hB2.cell (by rw [List.getElem?_replicate]; exact if_pos (by omega)); clear hB2)
  obtain ⟨W3, hW3⟩ : ∃ W3, W3 = w2.setCell ⟨wb, n0, none⟩ (.bool true) := ⟨_, rfl⟩
  rw [← hW3]
  have HBS : Aside0 (BoolsAt W3 wb ((List.replicate l.length false).set n0 true)) := ⟨by rw [hW3, HWB.out]; exact HBA.out.set n0 true⟩
  have HB3 : Aside0 (Below w.heap.size w W3) := ⟨by rw [hW3]; exact HB1.out.setCell (by rw [HWB.out]; exact Nat.le_refl _) _⟩
  have HRB : Aside0 (ReB l ((List.replicate l.length false).set n0 true)) := ⟨reB_start HA.out HN0.out.1 HN0.out.2⟩
  clear a1 a2 a3 f1 f2 hW3
  go_upto_region 4 with (fail)
  go_loopg [4] (l.length + 1) (fun kq v4 W => ∃ (av : Bool) (bl : List Bool), v4 = .bool av ∧ Aside0 (BoolsAt W wb bl) ∧ Aside0 (Below w.heap.size w W) ∧ Aside0 (ReO l bl av kq))
  case atStart => exact ⟨true, _, rfl, HBS, HB3, ⟨HRB.out, .inl ⟨rfl, by have := falses_le ((List.replicate l.length false).set n0 true); rw [HRB.out.len] at this; omega⟩⟩⟩
  case round =>
    obtain ⟨av, bl0, rfl, HBL0, HBW0, HRE⟩ := hrel
    clear HBS HB3 HRB HW1 HBA HR1 HB1
    cases hav : av
    · rw [hav] at HRE
      go_wp2
      go_ret
      exact ⟨wb, bl0, rfl, by have := HWB.out; omega, HBL0.out, HRE.out.1.len, fun i x hx => re_end HRE.out H1.out hx HA.out, HBW0.out⟩
    rw [hav] at HRE
    have HF : Aside0 (falses bl0 + 1 ≤ gk) := ⟨HRE.out.2.elim (fun h => h.2) (fun h => by cases h.1)⟩
    have HST : Aside0 (ReI l bl0 0 0 bl0 false) := ⟨re_start HRE.out.1⟩
    obtain ⟨gk0, HGK⟩ : ∃ gk0, Aside0 (gk0 = gk) := ⟨_, ⟨rfl⟩⟩
    clear HRE hav
    go_upto_region 7 with (fail)
    go_loopg [4, 5] l.length (fun kq v4 v5 W => ∃ (i : Nat) (iv : Int) (av : Bool) (bl : List Bool), v4 = .bool av ∧ v5 = .int .i64 iv ∧ Aside0 (iv = (i : Int)) ∧ Aside0 (i ≤ l.length ∧ l.length - i ≤ kq) ∧ Aside0 (BoolsAt W wb bl) ∧ Aside0 (Below w.heap.size w W) ∧ Aside0 (ReI l bl0 i 0 bl av))
    case atStart => exact ⟨0, 0, false, bl0, rfl, rfl, ⟨rfl⟩, ⟨by omega, by omega⟩, HBL0, HBW0, HST⟩
    case round =>
      obtain ⟨i, iv, av1, bl1, rfl, rfl, HIV, HI, HBL1, HBW1, HRI⟩ := hrel
      have c1 := (HR.out.below HBW1.out).c1
      by_cases hlt : i < l.length
      · obtain ⟨x, hx⟩ : ∃ x, l[i]? = some x := ⟨_, List.getElem?_eq_getElem hlt⟩
        have q1 : decide (iv < (l.length : Int)) = true := decide_eq_true (by have := HIV.out; omega)
        have q2 : (iv < (l.length : Int)) = True := eq_true (by have := HIV.out; omega)
        have q3 : (0 : Int) ≤ iv := by have := HIV.out; omega
        have q4 : iv.toNat = i := by have := HIV.out; omega
        have w1_ : wrap64 (iv + 1) = iv + 1 := wrap_ok9 _ (by omega) (by have := HIV.out; have := HB.out; omega)
        have HLT := Aside0.mk hlt
        have HX := Aside0.mk hx
        have HXB := Aside0.mk (HLB.out x (List.mem_of_getElem? hx))
        obtain ⟨gk1, HGK1⟩ : ∃ gk1, Aside0 (gk1 = gk) := ⟨_, ⟨rfl⟩⟩
        clear hx hlt
        go_upto_region 10 with (fail)
        clear c1
        go_loopg [4, 6] x.2.links.length (fun kq v4 v6 W => ∃ (k : Nat) (kv : Int) (av : Bool) (bl : List Bool), v4 = .bool av ∧ v6 = .int .i64 kv ∧ Aside0 (kv = (k : Int)) ∧ Aside0 (k ≤ x.2.links.length ∧ x.2.links.length - k ≤ kq) ∧ Aside0 (BoolsAt W wb bl) ∧ Aside0 (Below w.heap.size w W) ∧ Aside0 (ReI l bl0 i k bl av))
        case atStart => exact ⟨0, 0, av1, bl1, rfl, rfl, ⟨rfl⟩, ⟨by omega, by omega⟩, HBL1, HBW1, HRI⟩
        case round =>
          obtain ⟨k, kv, av2, bl2, rfl, rfl, HKV, HK, HBL2, HBW2, HRK⟩ := hrel
          have HRR := Aside0.mk (HR.out.below HBW2.out)
          have c1 := HRR.out.c1
          obtain ⟨b, o, Ax, cx, rfl, -, -, -, x2, -, -, hxr⟩ := HRR.out.objs.at HX.out
          have HXR := Aside0.mk hxr
          clear hxr
          have hbl : bl2.length = l.length := HRK.out.1.len
          obtain ⟨bi, hbi⟩ : ∃ bi, bl2[i]? = some bi := ⟨_, List.getElem?_eq_getElem (by have := HLT.out; omega)⟩
          have d1 := HBL2.out.cell hbi
          have HBI := Aside0.mk hbi
          have HLEN := Aside0.mk hbl
          clear hbi hbl
          by_cases hkt : k < x.2.links.length
          · have p1 : decide (kv < (x.2.links.length : Int)) = true := decide_eq_true (by have := HKV.out; omega)
            cases bi
            · go_wp2
              clear q4
              go_roundg (gk1 - 1)
              case measure => have := HI.out; have := HLT.out; have := HGK1.out; omega
              case rel => exact ⟨i + 1, iv + 1, av2, bl2, rfl, by first | rfl | rw [w1_], ⟨by have := HIV.out; omega⟩, ⟨by have := HLT.out; omega, by have := HI.out; have := HGK1.out; omega⟩, HBL2, HBW2, ⟨re_next HRK.out HX.out (.inr HBI.out)⟩⟩
            · obtain ⟨z, hz⟩ : ∃ z, x.2.links[k]? = some z := ⟨_, List.getElem?_eq_getElem hkt⟩
              obtain ⟨b2, o2, rfl, -, -, z1, -⟩ := HXR.out.at hz
              have p2 : (kv < (x.2.links.length : Int)) = True := eq_true (by have := HKV.out; omega)
              have p3 : (0 : Int) ≤ kv := by have := HKV.out; omega
              have p4 : kv.toNat = k := by have := HKV.out; omega
              have w2_ : wrap64 (kv + 1) = kv + 1 := wrap_ok9 _ (by omega) (by have := HKV.out; have := HXB.out; unfold bound at this; omega)
              have HZ := Aside0.mk hz
              have HKT := Aside0.mk hkt
              clear hz hkt
              go_upto_region 13 with (go_at_call 56; refine (refAt_calls _ g next _ c l z.2.1 HRR.out (by have := HB.out; unfold bound; omega)).mono ?_; rintro e_ w2 ⟨r, hra, rfl, rfl⟩; have HRA := Aside0.mk hra; clear hra)
              clear z1 p1 p2 p3 p4 x2
              by_cases hr0 : r < 0
              · have r1 : decide (0 ≤ r) = false := decide_eq_false (by omega)
                have HOLD : Aside0 (ReI l bl0 i (k + 1) bl2 av2) := ⟨re_old HA.out HRK.out HX.out HZ.out HRA.out (.inl hr0)⟩
                clear hr0
                go_wp2
                clear q4
                go_roundg (gk - 1)
                case measure => have := HK.out; have := HKT.out; omega
                case rel => exact ⟨k + 1, kv + 1, av2, bl2, rfl, by first | rfl | rw [w2_], ⟨by have := HKV.out; omega⟩, ⟨by have := HKT.out; omega, by have := HK.out; omega⟩, HBL2, HBW2, HOLD⟩
              obtain ⟨n, y, hn, hy, hrn, hnl⟩ : ∃ (n : Nat) (y : Int × GO), l[n]? = some y ∧ y.1 = z.2.1 ∧ r = (n : Int) ∧ n < l.length := by
                rcases HRA.out with ⟨n, y, h1, h2, h3⟩ | ⟨h1, -⟩
                · exact ⟨n, y, h1, h2, h3, (List.getElem?_eq_some_iff.1 h1).1⟩
                · omega
              obtain ⟨bn, hbn⟩ : ∃ bn, bl2[n]? = some bn := ⟨_, List.getElem?_eq_getElem (by have := HLEN.out; omega)⟩
              have e1 := HBL2.out.cell hbn
              have r1 : decide (0 ≤ r) = true := decide_eq_true (by omega)
              have r2 : (0 : Int) ≤ r := by omega
              have r3 : (r < (l.length : Int)) = True := eq_true (by omega)
              have r4 : r.toNat = n := by omega
              have HN := Aside0.mk (And.intro hn hy)
              have HRN := Aside0.mk hrn
              cases bn
              · have f1 : w2.frozen? ⟨wb, n, none⟩ = false := blk_frozen HBL2.out n
                have HNEW : Aside0 (ReI l bl0 i (k + 1) (bl2.set n true) true) := ⟨re_new HP.out HRK.out HX.out HBI.out HZ.out hn hy hbn⟩
                clear hn hy hrn hnl hbn hr0
                go_wp2
                clear q4 r4
                go_roundg (gk - 1)
                case measure => have := HK.out; have := HKT.out; omega
                case rel => exact ⟨k + 1, kv + 1, true, bl2.set n true, rfl, by first | rfl | rw [w2_], ⟨by have := HKV.out; omega⟩, ⟨by have := HKT.out; omega, by have := HK.out; omega⟩, ⟨HBL2.out.set n true⟩, ⟨HBW2.out.setCell (by have := HWB.out; show w.heap.size ≤ wb; omega) _⟩, HNEW⟩
              · have HOLD : Aside0 (ReI l bl0 i (k + 1) bl2 av2) := ⟨re_old HA.out HRK.out HX.out HZ.out HRA.out (.inr ⟨n, hrn, hbn⟩)⟩
                clear hn hy hrn hnl hbn hr0
                go_wp2
                clear q4 r4
                go_roundg (gk - 1)
                case measure => have := HK.out; have := HKT.out; omega
                case rel => exact ⟨k + 1, kv + 1, av2, bl2, rfl, by first | rfl | rw [w2_], ⟨by have := HKV.out; omega⟩, ⟨by have := HKT.out; omega, by have := HK.out; omega⟩, HBL2, HBW2, HOLD⟩
          · have p1 : decide (kv < (x.2.links.length : Int)) = false := decide_eq_false (by have := HKV.out; omega)
            have HKT := Aside0.mk hkt
            clear hkt
            go_wp2
            clear q4
            go_roundg (gk1 - 1)
            case measure => have := HI.out; have := HLT.out; have := HGK1.out; omega
            case rel => exact ⟨i + 1, iv + 1, av2, bl2, rfl, by first | rfl | rw [w1_], ⟨by have := HIV.out; omega⟩, ⟨by have := HLT.out; omega, by have := HI.out; have := HGK1.out; omega⟩, HBL2, HBW2, ⟨re_next HRK.out HX.out (.inl (by have := HKT.out; omega))⟩⟩
      · have q1 : decide (iv < (l.length : Int)) = false := decide_eq_false (by have := HIV.out; omega)
        have q2 : (iv < (l.length : Int)) = False := eq_false (by have := HIV.out; omega)
        have HLT := Aside0.mk hlt
        clear hlt
        go_wp2
        go_roundg (gk0 - 1)
        case measure => have := HF.out; have := HGK.out; omega
        case rel => exact ⟨av1, bl1, rfl, HBL1, HBW1, ⟨re_again HRI.out (by have := HLT.out; omega) (by have := HF.out; have := HGK.out; omega)⟩⟩
end
end Go.Proofs.YthifdofdoeaemaaGreatDoor.Wk
end
section
namespace Go.Proofs.YthifdofdoeaemaaGreatDoor.Wk
open Go.RowKit Go.Proofs.YthifdofdoeaemaaGreatDoorW.PrintWords Go.Proofs.YthifdofdoeaemaaGreatDoorW.PrintLast Go.Proofs.YthifdofdoeaemaaGreatDoorW.PrintMore
attribute [local go_sem] max2_int min2_int max_two min_two max_three min_three max_four min_four
set_option linter.unusedVariables false
set_option linter.unusedSimpArgs false
section
open Go.RowKit Go.Lib Go.Maps Go.Proofs.YthifdofdoeaemaaGreatDoorQ
attribute [local go_sem] Oper.semAt_some
theorem cells3_get : ∀ {l : List Lk} {j : Nat} {u : Value}, (cells3 l)[j]? = some u → ∃ (i : Nat) (y : Lk), l[i]? = some y ∧ (j = i * 3 ∧ u = .string y.1 ∨ j = i * 3 + 1 ∧ u = .int .i64 y.2.1 ∨ j = i * 3 + 2 ∧ u = .string y.2.2)
  | [], j, u, h => by simp [cells3] at h
  | y :: l, 0, u, h => ⟨0, y, rfl, .inl ⟨rfl, by simpa [cells3] using h.symm⟩⟩
  | y :: l, 1, u, h => ⟨0, y, rfl, .inr (.inl ⟨rfl, by simpa [cells3] using h.symm⟩)⟩
  | y :: l, 2, u, h => ⟨0, y, rfl, .inr (.inr ⟨rfl, by simpa [cells3] using h.symm⟩)⟩
  | y :: l, j + 3, u, h => by
    have h' : (cells3 l)[j]? = some u := by simpa [cells3] using h
    obtain ⟨i, z, hz, hu⟩ := cells3_get h'
    refine ⟨i + 1, z, by simpa using hz, ?_⟩
    rcases hu with ⟨h1, h2⟩ | ⟨h1, h2⟩ | ⟨h1, h2⟩
    · exact .inl ⟨by omega, h2⟩
    · exact .inr (.inl ⟨by omega, h2⟩)
    · exact .inr (.inr ⟨by omega, h2⟩)
theorem cells3_one {l : List Lk} : ∀ u ∈ cells3 l, u.oneCell' = true := fun u hu => by
  obtain ⟨j, hj⟩ := List.mem_iff_getElem?.1 hu
  obtain ⟨i, y, -, ⟨-, rfl⟩ | ⟨-, rfl⟩ | ⟨-, rfl⟩⟩ := cells3_get hj <;> rfl
theorem LinksR.cells {W : World} {A : Option Addr} {l : List Lk} (h : LinksR W A l) {a : Addr} (ha : A = some a) {j : Nat} {u : Value} (hu : (cells3 l)[j]? = some u) : W.cell? (a.add j) = some u := by
  obtain ⟨i, y, hy, hc⟩ := cells3_get hu
  obtain ⟨b, o, hA, -, k0, k1, k2⟩ := h.at hy
  rw [ha] at hA
  cases hA
  rw [Addr.add_lit]
  rcases hc with ⟨rfl, rfl⟩ | ⟨rfl, rfl⟩ | ⟨rfl, rfl⟩
  · exact k0
  · exact k1
  · exact k2
theorem run_append_none {P : Program} (w : World) (base : Nat) (t ty e : TypeId) (i : TypeInfo) (size : Nat) (ht : P.underlying t = some (.slice e)) (hi : P.info? e = some i) (v : Value) (n c : Nat) (xs : List Value) (hown : w.ownsRow base e size v n xs) :
    (Builtin.append_ #[t, t] ty #[v, .slice none 0 c]).run P w = .ok v w := by
  rcases hown.2 with ⟨rfl, rfl⟩ | ⟨g, cap, cur, rfl, _, _, hnc, _⟩
  · simp [Builtin.append_, run_underlying ht, sizeOf, typeInfo, hi, Builtin.lenOf, Builtin.firstCells]
  · simp [Builtin.append_, run_underlying ht, sizeOf, typeInfo, hi, Builtin.lenOf, Builtin.firstCells, hnc, storeCells]
theorem links_appended {W : World} {base : Nat} (hb : base ≤ W.heap.size) {v : Value} {k : Nat} {l0 : List Lk} (hv : W.ownsRow base 42 3 v k (cells3 l0)) {A : Option Addr} {n c : Nat} {l : List Lk} (hr : LinksR W A l) (hn : n = l.length) (hl : k + l.length ≤ bound + bound) :
    ∃ A' c' W', (Builtin.append_ #[38, 38] 38 #[v, .slice A n c]).run Tryz.prog W = .ok (.slice A' (k + n) c') W' ∧ W'.ownsRow base 42 3 (.slice A' (k + n) c') (k + n) (cells3 (l0 ++ l)) ∧ W.grownBy W' v.ownBlock := by
  obtain ⟨i0, hi0, hz0, hz1, hz2⟩ := info_parts (P := Tryz.prog) (e := 42) (z := .agg #[.string ⟨#[]⟩, .int .i64 0, .string ⟨#[]⟩]) (size := 3) (bytes := 40) (by kernel_rfl)
  have hcc : cells3 (l0 ++ l) = cells3 l0 ++ cells3 l := by unfold cells3; simp
  rw [hcc]
  unfold bound at hl
  cases A with
  | none =>
    have h0 : l = [] := by
      cases l with
      | nil => rfl
      | cons y t =>
        obtain ⟨b, o, e, -⟩ := hr (by simp)
        cases e
    subst h0
    obtain rfl : n = 0 := hn
    have hrun := run_append_none W base 38 38 42 i0 3 Tryz.underlying38 hi0 v k c _ hv
    obtain ⟨A', c', rfl⟩ := own_sl3 hv
    exact ⟨A', c', W, hrun, by simpa [cells3] using hv, World.grownBy.refl _ _⟩
  | some a =>
    obtain ⟨v', W', h1, h2, h3, -⟩ := run_append_own_at (P := Tryz.prog) W base 38 38 42 i0 _ 3 40 Tryz.underlying38 hi0 hz0 hz1 hz2 rfl (by decide) v k _ hv a n c (cells3 l) (by rw [cells3_len, hn]) (fun j u hu => hr.cells rfl hu) cells3_one (by rw [hn]; unfold maxLen; omega) (by rw [hn]; omega) hb
    obtain ⟨A', c', rfl⟩ := own_sl3 h2
    exact ⟨A', c', W', h1, h2, h3⟩
theorem empty_own (W : World) : (W.alloc (.cells #[] 42 (0, 0))).ownsRow W.heap.size 42 3 (.slice (some ⟨W.heap.size, 0, none⟩) 0 0) 0 (cells3 []) := ⟨rfl, .inr ⟨_, 0, _, rfl, Nat.le_refl _, World.alloc_heap_new _ _, Nat.le_refl _, by decide, rfl, rfl⟩⟩
theorem links_copied (W : World) {A : Option Addr} {n c : Nat} {l : List Lk} (hr : LinksR W A l) (hn : n = l.length) (hl : l.length ≤ bound) :
    ∃ A' c' W', (Builtin.append_ #[38, 38] 38 #[.slice (some ⟨W.heap.size, 0, none⟩) 0 0, .slice A n c]).run Tryz.prog (W.alloc (.cells #[] 42 (0, 0))) = .ok (.slice A' n c') W' ∧ W'.ownsRow W.heap.size 42 3 (.slice A' n c') n (cells3 l) ∧ Below W.heap.size W W' := by
  have hb := below_alloc (Below.refl W.heap.size W) (.cells #[] 42 (0, 0))
  obtain ⟨A', c', W', h1, h2, h3⟩ := links_appended (base := W.heap.size) hb.size (empty_own W) (n := n) (c := c) (hr.below hb) hn (by omega)
  rw [Nat.zero_add] at h1 h2
  exact ⟨A', c', W', h1, by simpa using h2, hb.grown h3 hb.size (fun k hk => by cases hk; exact Nat.le_refl _)⟩
theorem node_pushed {wr w5 : World} {base : Nat} {v : Value} {l : List (Int × GO)} (hv : NodesAt wr base v l) (hb5 : Below wr.heap.size wr w5) (hbase : base ≤ wr.heap.size) {x : Int × GO} {A5 : Option Addr} {c5 : Nat} (h5 : w5.ownsRow wr.heap.size 42 3 (.slice A5 x.2.links.length c5) x.2.links.length (cells3 x.2.links)) (hl : l.length ≤ bound) :
    ∃ A7 c7 w7, (Builtin.append_ #[46, 46] 46 #[v, .slice (some ⟨w5.heap.size, 0, none⟩) 1 1]).run Tryz.prog (w5.alloc (.cells #[.int .i64 x.1, .int .i64 x.2.kind, .slice A5 x.2.links.length c5] 50 (0, 0))) = .ok (.slice A7 (l.length + 1) c7) w7 ∧ NodesAt w7 base (.slice A7 (l.length + 1) c7) (l ++ [x]) ∧ Below base wr w7 := by
  obtain ⟨i0, hi0, hz0, hz1, hz2⟩ := info_parts (P := Tryz.prog) (e := 50) (z := .agg #[.int .i64 0, .int .i64 0, .slice none 0 0]) (size := 3) (bytes := 40) (by kernel_rfl)
  have hb6 : Below wr.heap.size wr (w5.alloc (.cells #[.int .i64 x.1, .int .i64 x.2.kind, .slice A5 x.2.links.length c5] 50 (0, 0))) := hb5.trans ((below_alloc (Below.refl _ _) _).mono hb5.size)
  obtain ⟨sl, n1, n2, n3⟩ := hv.below hb6
  have hnew : (w5.alloc (.cells #[.int .i64 x.1, .int .i64 x.2.kind, .slice A5 x.2.links.length c5] 50 (0, 0))).ownsRow w5.heap.size 50 3 (.slice (some ⟨w5.heap.size, 0, none⟩) 1 1) 1 [.int .i64 x.1, .int .i64 x.2.kind, .slice A5 x.2.links.length c5] := ⟨rfl, .inr ⟨_, 1, _, rfl, Nat.le_refl _, World.alloc_heap_new _ _, Nat.le_refl _, by decide, rfl, rfl⟩⟩
  obtain ⟨v7, w7, hr7, ho7, hg7⟩ := run_append_row (P := Tryz.prog) _ base w5.heap.size 46 46 50 i0 (.agg #[.int .i64 0, .int .i64 0, .slice none 0 0]) 3 40 Tryz.underlying46 hi0 hz0 hz1 hz2 rfl (by decide) v _ _ 1 _ _ n2 hnew (by simp [Value.oneCell']) (by unfold bound at hl; unfold maxLen; omega) (by unfold bound at hl; omega) (by have := hb6.size; omega)
  have hu5 : (w5.alloc (.cells #[.int .i64 x.1, .int .i64 x.2.kind, .slice A5 x.2.links.length c5] 50 (0, 0))).ownsRow base 42 3 (.slice A5 x.2.links.length c5) x.2.links.length (cells3 x.2.links) := (row_same h5 (SameOn.of_below (S := fun _ => True) (below_alloc (Below.refl _ _) _)) (fun _ _ => trivial)).mono hbase
  have hpush := NodesAt.push (x := x) n1 ho7 n3 hu5 n2 hg7
  obtain ⟨A7, c7, rfl⟩ := own_sl3 ho7
  exact ⟨A7, c7, w7, hr7, hpush, (hb6.mono hbase).grown hg7 (by have := hb6.size; omega) (own_base n2)⟩
theorem nodes_nil (W : World) (base : Nat) : NodesAt W base (.slice none 0 0) [] := ⟨[], rfl, World.ownsRow_nil _ _ _ _, fun j u v hx _ => by simp at hx⟩
theorem nodes_sl {W : World} {base : Nat} {v : Value} {l : List (Int × GO)} (h : NodesAt W base v l) : ∃ A c, v = .slice A l.length c := by
  obtain ⟨sl, -, h2, -⟩ := h
  exact own_sl3 h2
theorem held4 {W W' : World} {g b o1 o2 o3 : Nat} {v1 v2 v3 v4 : Value} (h : W.cell? ⟨g, 1, none⟩ = some v1 ∧ W.cell? ⟨b, o1, none⟩ = some v2 ∧ W.cell? ⟨b, o2, none⟩ = some v3 ∧ W.cell? ⟨b, o3, none⟩ = some v4) (hb : Below W.heap.size W W') :
    W'.cell? ⟨g, 1, none⟩ = some v1 ∧ W'.cell? ⟨b, o1, none⟩ = some v2 ∧ W'.cell? ⟨b, o2, none⟩ = some v3 ∧ W'.cell? ⟨b, o3, none⟩ = some v4 :=
  ⟨(hb.cell (World.block_lt_of_cell? _ _ h.1)).trans h.1, (hb.cell (World.block_lt_of_cell? _ _ h.2.1)).trans h.2.1, (hb.cell (World.block_lt_of_cell? _ _ h.2.2.1)).trans h.2.2.1, (hb.cell (World.block_lt_of_cell? _ _ h.2.2.2)).trans h.2.2.2⟩
set_option maxHeartbeats 8000000 in
set_option maxRecDepth 100000 in
theorem refNodes_calls (w : World) (g : Nat) (next : Int) (A : Option Addr) (c : Nat) (l : List (Int × GO)) (hr : RefR w g next A c l) (hb : l.length ≤ bound) (hlb : ∀ x ∈ l, x.2.links.length ≤ bound) :
    Calls Tryz.prog 59 #[.pointer (some ⟨g, 0, none⟩)] w fun e w' => ∃ v, e = .returned v ∧ NodesAt w' w.heap.size v l ∧ Below w.heap.size w w' := by
  have HR := Aside0.mk hr
  have HB := Aside0.mk hb
  have HLB := Aside0.mk hlb
  clear hr hb hlb
  go_enter Tryz.func59, Tryz.ntmps59
  go_wp2
  go_loopg [3, 4] l.length (fun kq v3 v4 W => ∃ (i : Nat) (iv : Int), v4 = .int .i64 iv ∧ Aside0 (iv = (i : Int)) ∧ Aside0 (i ≤ l.length ∧ l.length - i ≤ kq) ∧ Aside0 (NodesAt W w.heap.size v3 (l.take i)) ∧ Aside0 (Below w.heap.size w W))
  case atStart => exact ⟨0, 0, rfl, ⟨rfl⟩, ⟨by omega, by omega⟩, ⟨nodes_nil _ _⟩, ⟨Below.refl _ _⟩⟩
  case round =>
    obtain ⟨i, iv, rfl, HIV, HI, HN, HBW⟩ := hrel
    have HRR := Aside0.mk (HR.out.below HBW.out)
    have c1 := HRR.out.c1
    by_cases hlt : i < l.length
    · obtain ⟨x, hx⟩ : ∃ x, l[i]? = some x := ⟨_, List.getElem?_eq_getElem hlt⟩
      obtain ⟨b, o, Ax, cx, rfl, -, x0, x1, x2, -, -, hxr⟩ := HRR.out.objs.at hx
      have HXR := Aside0.mk hxr
      have q1 : decide (iv < (l.length : Int)) = true := decide_eq_true (by have := HIV.out; omega)
      have q2 : (iv < (l.length : Int)) = True := eq_true (by have := HIV.out; omega)
      have q3 : (0 : Int) ≤ iv := by have := HIV.out; omega
      have q4 : iv.toNat = i := by have := HIV.out; omega
      have w1_ : wrap64 (iv + 1) = iv + 1 := wrap_ok9 _ (by omega) (by have := HIV.out; have := HB.out; unfold bound at this; omega)
      have HLT := Aside0.mk hlt
      have HX := Aside0.mk hx
      have HXB := Aside0.mk (HLB.out x (List.mem_of_getElem? hx))
      have HTL : Aside0 ((l.take i).length = i) := ⟨by rw [List.length_take]; omega⟩
      have HTK : Aside0 (l.take (i + 1) = l.take i ++ [x]) := ⟨by obtain ⟨h1, e1⟩ := List.getElem?_eq_some_iff.1 hx; rw [List.take_succ_eq_append_getElem h1, e1]⟩
      clear hx hlt hxr
      go_upto_region 5 with (fail)
      have hS : wr.drew.cell? ⟨g, 1, none⟩ = some (.slice (some ⟨b, o, none⟩) l.length c) ∧ wr.drew.cell? ⟨b, o + i * 4, none⟩ = some (.int .i64 x.1) ∧ wr.drew.cell? ⟨b, o + i * 4 + 1, none⟩ = some (.int .i64 x.2.kind) ∧ wr.drew.cell? ⟨b, o + i * 4 + 2, none⟩ = some (.slice Ax x.2.links.length cx) := ⟨c1, x0, x1, x2⟩
      refine start_ (n := 31) (S := fun W' => W'.cell? ⟨g, 1, none⟩ = some (.slice (some ⟨b, o, none⟩) l.length c) ∧ W'.cell? ⟨b, o + i * 4, none⟩ = some (.int .i64 x.1) ∧ W'.cell? ⟨b, o + i * 4 + 1, none⟩ = some (.int .i64 x.2.kind) ∧ W'.cell? ⟨b, o + i * 4 + 2, none⟩ = some (.slice Ax x.2.links.length cx)) (ds := [28, 29]) #[false, false, false, false, false, false, false, false, false, false, false, false, false, false, false, false, false, false, false, false, false, false, false, false, false, false, false, false, false, false, false] (by kernel_rfl) rfl rfl hS (fun hHeld => ?_)
      refine pure_ (i := 0) (N := some 14) (v := ?_) (a' := ?_) (bb 31 1) rfl rfl (by kernel_rfl) (fun _ _ _ h => h) (Or.inl ⟨by rfl, ?_⟩) ?_ ?_
      rotate_left
      · intro w'
        go_simp
        with_reducible rfl
      rotate_left
      · simp only [Act.put, sa, sz, ss, i64_w, i32_w]
        rfl
      refine pure_ (i := 1) (N := some 15) (v := ?_) (a' := ?_) (bb 31 3) rfl rfl (by kernel_rfl) (fun _ _ _ h => h) (Or.inl ⟨by rfl, ?_⟩) ?_ ?_
      rotate_left
      · intro w'
        go_simp
        with_reducible rfl
      rotate_left
      · simp only [Act.put, sa, sz, ss, i64_w, i32_w]
        rfl
      refine pure_ (i := 2) (N := some 16) (v := ?_) (a' := ?_) (bb 31 7) rfl rfl (by kernel_rfl) (fun _ _ _ h => h) (Or.inl ⟨by rfl, ?_⟩) ?_ ?_
      rotate_left
      · intro w'
        go_simp
        with_reducible rfl
      rotate_left
      · simp only [Act.put, sa, sz, ss, i64_w, i32_w]
        rfl
      refine pure_ (i := 3) (N := some 17) (v := ?_) (a' := ?_) (bb 31 15) rfl rfl (by kernel_rfl) (fun _ _ _ h => h) (Or.inl ⟨by rfl, ?_⟩) ?_ ?_
      rotate_left
      · intro w'
        go_simp
        with_reducible rfl
      rotate_left
      · simp only [Act.put, sa, sz, ss, i64_w, i32_w]
        rfl
      refine take_ (i := 4) (N := some 18) (v := ?_) (a' := ?_) (bb 31 31) rfl rfl (by kernel_rfl) (fun _ _ _ h => h) (Or.inl ⟨by rfl, ?_⟩) hHeld ?_ ?_
      rotate_left
      · rintro w' ⟨s1_, s2_, s3_, s4_⟩
        go_simp
        with_reducible rfl
      rotate_left
      · simp only [Act.put, sa, sz, ss, i64_w, i32_w]
        rfl
      refine pure_ (i := 5) (N := some 19) (v := ?_) (a' := ?_) (bb 31 63) rfl rfl (by kernel_rfl) (fun _ _ _ h => h) (Or.inl ⟨by rfl, ?_⟩) ?_ ?_
      rotate_left
      · intro w'
        go_simp
        with_reducible rfl
      rotate_left
      · simp only [Act.put, sa, sz, ss, i64_w, i32_w]
        rfl
      refine pure_ (i := 6) (N := some 20) (v := ?_) (a' := ?_) (bb 31 127) rfl rfl (by kernel_rfl) (fun _ _ _ h => h) (Or.inl ⟨by rfl, ?_⟩) ?_ ?_
      rotate_left
      · intro w'
        go_simp
        with_reducible rfl
      rotate_left
      · simp only [Act.put, sa, sz, ss, i64_w, i32_w]
        rfl
      refine pure_ (i := 7) (N := some 21) (v := ?_) (a' := ?_) (bb 31 255) rfl rfl (by kernel_rfl) (fun _ _ _ h => h) (Or.inl ⟨by rfl, ?_⟩) ?_ ?_
      rotate_left
      · intro w'
        go_simp
        with_reducible rfl
      rotate_left
      · simp only [Act.put, sa, sz, ss, i64_w, i32_w]
        rfl
      refine take_ (i := 8) (N := some 22) (v := ?_) (a' := ?_) (bb 31 511) rfl rfl (by kernel_rfl) (fun _ _ _ h => h) (Or.inl ⟨by rfl, ?_⟩) hHeld ?_ ?_
      rotate_left
      · rintro w' ⟨s1_, s2_, s3_, s4_⟩
        go_simp
        with_reducible rfl
      rotate_left
      · simp only [Act.put, sa, sz, ss, i64_w, i32_w]
        rfl
      refine pure_ (i := 9) (N := some 23) (v := ?_) (a' := ?_) (bb 31 1023) rfl rfl (by kernel_rfl) (fun _ _ _ h => h) (Or.inl ⟨by rfl, ?_⟩) ?_ ?_
      rotate_left
      · intro w'
        go_simp
        with_reducible rfl
      rotate_left
      · simp only [Act.put, sa, sz, ss, i64_w, i32_w]
        rfl
      refine pure_ (i := 10) (N := some 24) (v := ?_) (a' := ?_) (bb 31 2047) rfl rfl (by kernel_rfl) (fun _ _ _ h => h) (Or.inl ⟨by rfl, ?_⟩) ?_ ?_
      rotate_left
      · intro w'
        go_simp
        with_reducible rfl
      rotate_left
      · simp only [Act.put, sa, sz, ss, i64_w, i32_w]
        rfl
      refine pure_ (i := 11) (N := some 25) (v := ?_) (a' := ?_) (bb 31 4095) rfl rfl (by kernel_rfl) (fun _ _ _ h => h) (Or.inl ⟨by rfl, ?_⟩) ?_ ?_
      rotate_left
      · intro w'
        go_simp
        with_reducible rfl
      rotate_left
      · simp only [Act.put, sa, sz, ss, i64_w, i32_w]
        rfl
      refine take_ (i := 12) (N := some 26) (v := ?_) (a' := ?_) (bb 31 8191) rfl rfl (by kernel_rfl) (fun _ _ _ h => h) (Or.inl ⟨by rfl, ?_⟩) hHeld ?_ ?_
      rotate_left
      · rintro w' ⟨s1_, s2_, s3_, s4_⟩
        go_simp
        with_reducible rfl
      rotate_left
      · simp only [Act.put, sa, sz, ss, i64_w, i32_w]
        rfl
      refine pure_ (i := 13) (N := some 27) (v := ?_) (a' := ?_) (bb 31 16383) rfl rfl (by kernel_rfl) (fun _ _ _ h => h) (Or.inl ⟨by rfl, ?_⟩) ?_ ?_
      rotate_left
      · intro w'
        go_simp
        with_reducible rfl
      rotate_left
      · simp only [Act.put, sa, sz, ss, i64_w, i32_w]
        rfl
      refine pure_ (i := 14) (N := some 28) (v := ?_) (a' := ?_) (bb 31 32767) rfl rfl (by kernel_rfl) (fun _ _ _ h => h) (Or.inl ⟨by rfl, ?_⟩) ?_ ?_
      rotate_left
      · intro w'
        go_simp
        with_reducible rfl
      rotate_left
      · simp only [Act.put, sa, sz, ss, i64_w, i32_w]
        rfl
      refine pure_ (i := 15) (N := some 29) (v := ?_) (a' := ?_) (bb 31 65535) rfl rfl (by kernel_rfl) (fun _ _ _ h => h) (Or.inl ⟨by rfl, ?_⟩) ?_ ?_
      rotate_left
      · intro w'
        go_simp
        with_reducible rfl
      rotate_left
      · simp only [Act.put, sa, sz, ss, i64_w, i32_w]
        rfl
      refine take_ (i := 16) (N := some 30) (v := ?_) (a' := ?_) (bb 31 131071) rfl rfl (by kernel_rfl) (fun _ _ _ h => h) (Or.inl ⟨by rfl, ?_⟩) hHeld ?_ ?_
      rotate_left
      · rintro w' ⟨s1_, s2_, s3_, s4_⟩
        go_simp
        with_reducible rfl
      rotate_left
      · simp only [Act.put, sa, sz, ss, i64_w, i32_w]
        rfl
      refine pure_ (i := 18) (N := some 32) (v := ?_) (a' := ?_) (bb 31 393215) rfl rfl (by kernel_rfl) (fun _ _ _ h => h) (Or.inl ⟨by rfl, ?_⟩) ?_ ?_
      rotate_left
      · intro w'
        go_simp
        with_reducible rfl
      rotate_left
      · simp only [Act.put, sa, sz, ss, i64_w, i32_w]
        rfl
      refine pure_ (i := 19) (N := some 33) (v := ?_) (a' := ?_) (bb 31 917503) rfl rfl (by kernel_rfl) (fun _ _ _ h => h) (Or.inl ⟨by rfl, ?_⟩) ?_ ?_
      rotate_left
      · intro w'
        go_simp
        with_reducible rfl
      rotate_left
      · simp only [Act.put, sa, sz, ss, i64_w, i32_w]
        rfl
      refine pure_ (i := 20) (N := some 34) (v := ?_) (a' := ?_) (bb 31 1966079) rfl rfl (by kernel_rfl) (fun _ _ _ h => h) (Or.inl ⟨by rfl, ?_⟩) ?_ ?_
      rotate_left
      · intro w'
        go_simp
        with_reducible rfl
      rotate_left
      · simp only [Act.put, sa, sz, ss, i64_w, i32_w]
        rfl
      refine take_ (i := 21) (N := some 35) (v := ?_) (a' := ?_) (bb 31 4063231) rfl rfl (by kernel_rfl) (fun _ _ _ h => h) (Or.inl ⟨by rfl, ?_⟩) hHeld ?_ ?_
      rotate_left
      · rintro w' ⟨s1_, s2_, s3_, s4_⟩
        go_simp
        with_reducible rfl
      rotate_left
      · simp only [Act.put, sa, sz, ss, i64_w, i32_w]
        rfl
      refine pure_ (i := 22) (N := some 36) (v := ?_) (a' := ?_) (bb 31 8257535) rfl rfl (by kernel_rfl) (fun _ _ _ h => h) (Or.inl ⟨by rfl, ?_⟩) ?_ ?_
      rotate_left
      · intro w'
        go_simp
        with_reducible rfl
      rotate_left
      · simp only [Act.put, sa, sz, ss, i64_w, i32_w]
        rfl
      refine pure_ (i := 23) (N := some 37) (v := ?_) (a' := ?_) (bb 31 16646143) rfl rfl (by kernel_rfl) (fun _ _ _ h => h) (Or.inl ⟨by rfl, ?_⟩) ?_ ?_
      rotate_left
      · intro w'
        go_simp
        with_reducible rfl
      rotate_left
      · simp only [Act.put, sa, sz, ss, i64_w, i32_w]
        rfl
      refine pure_ (i := 24) (N := some 38) (v := ?_) (a' := ?_) (bb 31 33423359) rfl rfl (by kernel_rfl) (fun _ _ _ h => h) (Or.inl ⟨by rfl, ?_⟩) ?_ ?_
      rotate_left
      · intro w'
        go_simp
        with_reducible rfl
      rotate_left
      · simp only [Act.put, sa, sz, ss, i64_w, i32_w]
        rfl
      refine take_ (i := 25) (N := some 39) (v := ?_) (a' := ?_) (bb 31 66977791) rfl rfl (by kernel_rfl) (fun _ _ _ h => h) (Or.inl ⟨by rfl, ?_⟩) hHeld ?_ ?_
      rotate_left
      · rintro w' ⟨s1_, s2_, s3_, s4_⟩
        go_simp
        with_reducible rfl
      rotate_left
      · simp only [Act.put, sa, sz, ss, i64_w, i32_w]
        rfl
      refine one_ (i := 17) (N := some 31) (bb 31 67108863) rfl rfl (by kernel_rfl) (by decide) (fun K hK => ?_)
      skip
      refine value_ (v := .slice (some ⟨wr.drew.heap.size, 0, none⟩) 0 0) (w1 := wr.drew.alloc (.cells #[] 42 (0, 0))) (by rfl) rfl (by go_simp) ?_
      refine hK.out _ _ (held4 hHeld (below_alloc (Below.refl _ _) _)) (fun hHeld => ?_)
      clear hK K
      refine norm_ (a' := ?_) ?_ ?_
      rotate_left
      · show Act.put _ (some 31) _ = _
        simp only [Act.put, sa, sz, ss, i64_w, i32_w]
        rfl
      obtain ⟨A5, c5, w5, hr5, ho5, hb5⟩ := links_copied wr.drew (A := Ax) (n := x.2.links.length) (c := cx) (HXR.out.below (below_drew (Below.refl _ _))) rfl HXB.out
      have HR5 := Aside0.mk hr5
      have HO5 := Aside0.mk ho5
      have HB5 : Aside0 (Below wr.heap.size wr w5) := ⟨(below_drew (Below.refl _ _)).trans hb5⟩
      clear hr5 ho5
      refine one_ (i := 26) (N := some 40) (bb 31 134217727) rfl rfl (by kernel_rfl) (by decide) (fun K hK => ?_)
      refine step_append rfl (.tmp 31) (.tmp 39) 38 rfl rfl rfl HR5.out ?_
      refine hK.out _ _ (held4 hS hb5) (fun hHeld => ?_)
      clear hK K hb5
      refine norm_ (a' := ?_) ?_ ?_
      rotate_left
      · show Act.put _ (some 40) _ = _
        simp only [Act.put, sa, sz, ss, i64_w, i32_w]
        rfl
      refine pure_ (i := 27) (N := some 41) (v := ?_) (a' := ?_) (bb 31 268435455) rfl rfl (by kernel_rfl) (fun _ _ _ h => h) (Or.inl ⟨by rfl, ?_⟩) ?_ ?_
      rotate_left
      · intro w'
        go_simp
        with_reducible rfl
      rotate_left
      · simp only [Act.put, sa, sz, ss, i64_w, i32_w]
        rfl
      refine last_ (i := 28) (N := some 42) (bb 31 536870911) rfl rfl (by kernel_rfl) (by decide) (fun K hK => ?_)
      skip
      refine value_ (v := .slice (some ⟨w5.heap.size, 0, none⟩) 1 1) (w1 := w5.alloc (.cells #[.int .i64 x.1, .int .i64 x.2.kind, .slice A5 x.2.links.length c5] 50 (0, 0))) (by rfl) rfl (by go_simp) ?_
      refine hK.out _ _ ?_
      clear hK K
      refine norm_ (a' := ?_) ?_ ?_
      rotate_left
      · show Act.put _ (some 42) _ = _
        simp only [Act.put, sa, sz, ss, i64_w, i32_w]
        rfl
      obtain ⟨A7, c7, w7, hr7, hpush, hb7⟩ := node_pushed HN.out HB5.out HBW.out.size HO5.out (by have := HTL.out; have := HB.out; have := HLT.out; omega)
      rw [HTL.out] at hr7 hpush
      rw [← HTK.out] at hpush
      have HR7 := Aside0.mk hr7
      have HPUSH := Aside0.mk hpush
      have HB7 := Aside0.mk (HBW.out.trans hb7)
      clear hr7 hpush hb7
      refine last_ (i := 29) (N := some 43) (bb 31 1073741823) rfl rfl (by kernel_rfl) (by decide) (fun K hK => ?_)
      refine step_append rfl (.tmp 14) (.tmp 42) 46 rfl rfl rfl HR7.out ?_
      refine hK.out _ _ ?_
      clear hK K
      refine norm_ (a' := ?_) ?_ ?_
      rotate_left
      · show Act.put _ (some 43) _ = _
        simp only [Act.put, sa, sz, ss, i64_w, i32_w]
        rfl
      refine pure_ (i := 30) (N := some 3) (v := ?_) (a' := ?_) (bb 31 2147483647) rfl rfl (by kernel_rfl) (fun _ _ _ h => h) (Or.inl ⟨by rfl, ?_⟩) ?_ ?_
      rotate_left
      · intro w'
        go_simp
        with_reducible rfl
      rotate_left
      · simp only [Act.put, sa, sz, ss, i64_w, i32_w]
        rfl
      refine done_ (by kernel_rfl) ?_
      clear hHeld hS c1 x0 x1 x2
      go_wp2
      clear q4
      go_roundg (gk - 1)
      case measure => have := HI.out; have := HLT.out; omega
      case rel => exact ⟨i + 1, iv + 1, by first | rfl | rw [w1_], ⟨by have := HIV.out; omega⟩, ⟨by have := HLT.out; omega, by have := HI.out; omega⟩, HPUSH, HB7⟩
    · have q1 : decide (iv < (l.length : Int)) = false := decide_eq_false (by have := HIV.out; omega)
      have q2 : (iv < (l.length : Int)) = False := eq_false (by have := HIV.out; omega)
      have HLT := Aside0.mk hlt
      clear hlt
      go_wp2
      go_ret
      exact ⟨_, rfl, by have := HN.out; rw [List.take_of_length_le (by have := HLT.out; omega)] at this; exact this, HBW.out⟩
end
end Go.Proofs.YthifdofdoeaemaaGreatDoor.Wk
end
section
namespace Go.Proofs.YthifdofdoeaemaaGreatDoor.Wk
open Go.RowKit Go.Proofs.YthifdofdoeaemaaGreatDoorW.PrintWords Go.Proofs.YthifdofdoeaemaaGreatDoorW.PrintLast Go.Proofs.YthifdofdoeaemaaGreatDoorW.PrintMore
attribute [local go_sem] max2_int min2_int max_two min_two max_three min_three max_four min_four
set_option linter.unusedVariables false
set_option linter.unusedSimpArgs false
section
open Go.RowKit Go.Lib Go.Maps Go.Proofs.YthifdofdoeaemaaGreatDoorQ
attribute [local go_sem] Oper.semAt_some
def objC : List (Int × GO) → List Value → List Value
  | x :: l, u :: sl => .int .i64 x.1 :: .int .i64 x.2.kind :: u :: .int .i64 x.2.held :: objC l sl
  | _, _ => []
theorem objC_snoc : ∀ (l : List (Int × GO)) (sl : List Value) (x : Int × GO) (u : Value), sl.length = l.length → objC (l ++ [x]) (sl ++ [u]) = objC l sl ++ [.int .i64 x.1, .int .i64 x.2.kind, u, .int .i64 x.2.held]
  | [], [], x, u, _ => rfl
  | a :: l, b :: sl, x, u, h => by
    show _ :: _ :: _ :: _ :: objC (l ++ [x]) (sl ++ [u]) = _
    rw [objC_snoc l sl x u (by simpa using h)]
    rfl
theorem objC_get : ∀ {l : List (Int × GO)} {sl : List Value} {j : Nat} {x : Int × GO} {u : Value}, l[j]? = some x → sl[j]? = some u → (objC l sl)[j * 4]? = some (.int .i64 x.1) ∧ (objC l sl)[j * 4 + 1]? = some (.int .i64 x.2.kind) ∧ (objC l sl)[j * 4 + 2]? = some u ∧ (objC l sl)[j * 4 + 3]? = some (.int .i64 x.2.held)
  | a :: l, b :: sl, 0, x, u, hx, hu => by
    cases hx; cases hu
    exact ⟨rfl, rfl, rfl, rfl⟩
  | a :: l, b :: sl, j + 1, x, u, hx, hu => by
    obtain ⟨h1, h2, h3, h4⟩ := objC_get (l := l) (sl := sl) (j := j) (by simpa using hx) (by simpa using hu)
    have e : (j + 1) * 4 = j * 4 + 4 := by omega
    rw [e]
    exact ⟨h1, h2, h3, h4⟩
  | [], _, j, x, u, hx, _ => by simp at hx
  | a :: l, [], j, x, u, _, hu => by simp at hu
def ObjsAt (W : World) (base : Nat) (v : Value) (l : List (Int × GO)) : Prop := ∃ sl : List Value, sl.length = l.length ∧ W.ownsRow base 106 4 v l.length (objC l sl) ∧
  ∀ (j : Nat) (x : Int × GO) (u : Value), l[j]? = some x → sl[j]? = some u → W.ownsRow base 42 3 u x.2.links.length (cells3 x.2.links)
theorem own_sl4 {w : World} {base n size : Nat} {e : TypeId} {v : Value} {xs : List Value} (h : w.ownsRow base e size v n xs) : ∃ A c, v = .slice A n c := by
  rcases h.2 with ⟨rfl, rfl⟩ | ⟨g, cap, cur, rfl, _⟩
  · exact ⟨_, _, rfl⟩
  · exact ⟨_, _, rfl⟩
theorem ObjsAt.sl {W : World} {base : Nat} {v : Value} {l : List (Int × GO)} (h : ObjsAt W base v l) : ∃ A c, v = .slice A l.length c ∧ l.length ≤ c := by
  obtain ⟨sl, -, h2, -⟩ := h
  obtain ⟨A, c, rfl⟩ := own_sl4 h2
  exact ⟨A, c, rfl, row_cap h2⟩
theorem ObjsAt.below {w W : World} {base : Nat} {v : Value} {l : List (Int × GO)} (h : ObjsAt w base v l) (hb : Below w.heap.size w W) : ObjsAt W base v l := by
  obtain ⟨sl, h1, h2, h3⟩ := h
  exact ⟨sl, h1, row_same h2 (SameOn.of_below (S := fun _ => True) hb) (fun _ _ => trivial), fun j x u hx hu => row_same (h3 j x u hx hu) (SameOn.of_below (S := fun _ => True) hb) (fun _ _ => trivial)⟩
theorem ObjsAt.mono {W : World} {base base' : Nat} {v : Value} {l : List (Int × GO)} (h : ObjsAt W base v l) (hb : base' ≤ base) : ObjsAt W base' v l := by
  obtain ⟨sl, h1, h2, h3⟩ := h
  exact ⟨sl, h1, h2.mono hb, fun j x u hx hu => (h3 j x u hx hu).mono hb⟩
theorem own_apart {W : World} {b n s : Nat} {e t : TypeId} {v : Value} {xs : List Value} (h : W.ownsRow b e s v n xs) {g : Nat} {cs : Array Value} (hg : W.heap[g]? = some (.cells cs t (0, 0))) (he : e ≠ t) {k : Nat} (hk : v.ownBlock = some k) : k ≠ g := by
  obtain ⟨c1, q1⟩ := own_typed h k hk
  rintro rfl
  rw [hg] at q1
  cases q1
  exact he rfl
theorem ObjsAt.move {w W : World} {base : Nat} {v : Value} {l : List (Int × GO)} (h : ObjsAt w base v l) {g : Nat} {cs : Array Value} {t : TypeId} (hg : w.heap[g]? = some (.cells cs t (0, 0))) (h1 : 106 ≠ t) (h2 : 42 ≠ t) (hs : ∀ k, k ≠ g → W.heap[k]? = w.heap[k]?) : ObjsAt W base v l := by
  obtain ⟨sl, n1, n2, n3⟩ := h
  exact ⟨sl, n1, own_move n2 (fun k hk => hs k (own_apart n2 hg h1 hk)), fun j x u hx hu => own_move (n3 j x u hx hu) (fun k hk => hs k (own_apart (n3 j x u hx hu) hg h2 hk))⟩
theorem ObjsAt.push {w1 w2 : World} {base : Nat} {v v' : Value} {l : List (Int × GO)} {x : Int × GO} {sl : List Value} {u : Value} (h1 : sl.length = l.length)
    (h2 : w2.ownsRow base 106 4 v' (l.length + 1) (objC l sl ++ [.int .i64 x.1, .int .i64 x.2.kind, u, .int .i64 x.2.held]))
    (h3 : ∀ (j : Nat) (y : Int × GO) (z : Value), l[j]? = some y → sl[j]? = some z → w1.ownsRow base 42 3 z y.2.links.length (cells3 y.2.links)) (hu : w1.ownsRow base 42 3 u x.2.links.length (cells3 x.2.links))
    (ho : w1.ownsRow base 106 4 v l.length (objC l sl)) (hg : w1.grownBy w2 v.ownBlock) : ObjsAt w2 base v' (l ++ [x]) := by
  have keep : ∀ {n : Nat} {z : Value} {ys : List Value}, w1.ownsRow base 42 3 z n ys → w2.ownsRow base 42 3 z n ys := fun {n z ys} hz =>
    own_move hz (fun k hk => hg.block k (hz.lt k hk).2 (fun e => rows_apart hz ho (by decide) hk e.symm))
  refine ⟨sl ++ [u], by simp [h1], ?_, fun j y z hy hz => ?_⟩
  · rw [objC_snoc l sl x u h1, List.length_append]
    exact h2
  · by_cases hj : j < l.length
    · rw [List.getElem?_append_left hj] at hy
      rw [List.getElem?_append_left (by omega)] at hz
      exact keep (h3 j y z hy hz)
    · have hj2 : j = l.length := by
        have := (List.getElem?_eq_some_iff.1 hy).1
        simp at this
        omega
      subst hj2
      rw [List.getElem?_append_right (Nat.le_refl _)] at hy
      rw [List.getElem?_append_right (by omega)] at hz
      simp at hy
      rw [h1] at hz
      simp at hz
      subst hy
      subst hz
      exact keep hu
theorem obj_pushed {wr w5 : World} {base : Nat} {v : Value} {l : List (Int × GO)} (hv : ObjsAt wr base v l) (hb5 : Below wr.heap.size wr w5) (hbase : base ≤ wr.heap.size) {x : Int × GO} {A5 : Option Addr} {c5 : Nat} (h5 : w5.ownsRow base 42 3 (.slice A5 x.2.links.length c5) x.2.links.length (cells3 x.2.links)) (hl : l.length ≤ bound) :
    ∃ A7 c7 w7, (Builtin.append_ #[102, 102] 102 #[v, .slice (some ⟨w5.heap.size, 0, none⟩) 1 1]).run Tryz.prog (w5.alloc (.cells #[.int .i64 x.1, .int .i64 x.2.kind, .slice A5 x.2.links.length c5, .int .i64 x.2.held] 106 (0, 0))) = .ok (.slice A7 (l.length + 1) c7) w7 ∧ ObjsAt w7 base (.slice A7 (l.length + 1) c7) (l ++ [x]) ∧ (w5.alloc (.cells #[.int .i64 x.1, .int .i64 x.2.kind, .slice A5 x.2.links.length c5, .int .i64 x.2.held] 106 (0, 0))).grownBy w7 v.ownBlock := by
  obtain ⟨i0, hi0, hz0, hz1, hz2⟩ := info_parts (P := Tryz.prog) (e := 106) (z := .agg #[.int .i64 0, .int .i64 0, .slice none 0 0, .int .i64 0]) (size := 4) (bytes := 48) (by kernel_rfl)
  have hb6 : Below wr.heap.size wr (w5.alloc (.cells #[.int .i64 x.1, .int .i64 x.2.kind, .slice A5 x.2.links.length c5, .int .i64 x.2.held] 106 (0, 0))) := hb5.trans ((below_alloc (Below.refl _ _) _).mono hb5.size)
  obtain ⟨sl, n1, n2, n3⟩ := hv.below hb6
  have hnew : (w5.alloc (.cells #[.int .i64 x.1, .int .i64 x.2.kind, .slice A5 x.2.links.length c5, .int .i64 x.2.held] 106 (0, 0))).ownsRow w5.heap.size 106 4 (.slice (some ⟨w5.heap.size, 0, none⟩) 1 1) 1 [.int .i64 x.1, .int .i64 x.2.kind, .slice A5 x.2.links.length c5, .int .i64 x.2.held] := ⟨rfl, .inr ⟨_, 1, _, rfl, Nat.le_refl _, World.alloc_heap_new _ _, Nat.le_refl _, by decide, rfl, rfl⟩⟩
  obtain ⟨v7, w7, hr7, ho7, hg7⟩ := run_append_row (P := Tryz.prog) _ base w5.heap.size 102 102 106 i0 (.agg #[.int .i64 0, .int .i64 0, .slice none 0 0, .int .i64 0]) 4 48 Tryz.underlying102 hi0 hz0 hz1 hz2 rfl (by decide) v _ _ 1 _ _ n2 hnew (by simp [Value.oneCell']) (by unfold bound at hl; unfold maxLen; omega) (by unfold bound at hl; omega) (by have := hb6.size; omega)
  have hu5 := row_same h5 (SameOn.of_below (S := fun _ => True) (below_alloc (Below.refl _ _) (.cells #[.int .i64 x.1, .int .i64 x.2.kind, .slice A5 x.2.links.length c5, .int .i64 x.2.held] 106 (0, 0)))) (fun _ _ => trivial)
  have hpush := ObjsAt.push (x := x) n1 ho7 n3 hu5 n2 hg7
  obtain ⟨A7, c7, rfl⟩ := own_sl4 ho7
  exact ⟨A7, c7, w7, hr7, hpush, hg7⟩
theorem ObjsAt.base {W : World} {base : Nat} {v : Value} {l : List (Int × GO)} (h : ObjsAt W base v l) {k : Nat} (hk : v.ownBlock = some k) : base ≤ k ∧ k < W.heap.size := by
  obtain ⟨sl, -, h2, -⟩ := h
  exact h2.lt k hk
theorem ObjsAt.R {W : World} {base : Nat} {A : Option Addr} {c : Nat} {l : List (Int × GO)} (h : ObjsAt W base (.slice A l.length c) l) : ObjsR W A l := fun h0 => by
  obtain ⟨sl, h1, h2, h3⟩ := h
  obtain ⟨g, hA, hg⟩ : ∃ g, A = some ⟨g, 0, none⟩ ∧ g < W.heap.size := by
    have h2' := h2
    rcases h2'.2 with ⟨h4, h5⟩ | ⟨g, cap, cur, h4, h5, h6, -⟩
    · omega
    · cases h4
      exact ⟨g, rfl, blk_lt h6⟩
  subst hA
  refine ⟨g, 0, rfl, hg, fun j x hx => ?_⟩
  obtain ⟨u, hu⟩ : ∃ u, sl[j]? = some u := ⟨_, List.getElem?_eq_getElem (by have := (List.getElem?_eq_some_iff.1 hx).1; omega)⟩
  have h4 := h3 j x u hx hu
  obtain ⟨Ax, cx, rfl⟩ := own_sl4 h4
  obtain ⟨k0, k1, k2, k3⟩ := objC_get hx hu
  have hc : ∀ m z, (objC l sl)[m]? = some z → W.cell? ⟨g, m, none⟩ = some z := fun m z hz => by
    have := h2.cells (g := g) rfl m z hz
    rwa [Addr.add_lit, Nat.zero_add] at this
  rw [Nat.zero_add]
  exact ⟨Ax, cx, hc _ _ k0, hc _ _ k1, hc _ _ k2, hc _ _ k3, row_cap h4, links_own h4 rfl⟩
structure RefAt (W : World) (base g : Nat) (next : Int) (v : Value) (l : List (Int × GO)) : Prop where
  lo : base ≤ g
  blk : W.heap[g]? = some (.cells #[.int .i64 next, v] 104 (0, 0))
  objs : ObjsAt W base v l
theorem RefAt.below {w W : World} {base g : Nat} {next : Int} {v : Value} {l : List (Int × GO)} (h : RefAt w base g next v l) (hb : Below w.heap.size w W) : RefAt W base g next v l := ⟨h.lo, (hb.block _ (blk_lt h.blk)).trans h.blk, h.objs.below hb⟩
theorem RefAt.R {W : World} {base g : Nat} {next : Int} {v : Value} {l : List (Int × GO)} (h : RefAt W base g next v l) : ∃ A c, v = .slice A l.length c ∧ RefR W g next A c l := by
  obtain ⟨A, c, rfl, hc⟩ := h.objs.sl
  exact ⟨A, c, rfl, ⟨blk_lt h.blk, (blk_cell h.blk 0).trans rfl, (blk_cell h.blk 1).trans rfl, hc, h.objs.R⟩⟩
theorem RefAt.put {w5 w7 : World} {base g : Nat} {next : Int} {v v7 : Value} {l l' : List (Int × GO)} (h : RefAt w5 base g next v l) (hg : w5.grownBy w7 v.ownBlock) (h7 : ObjsAt w7 base v7 l') : RefAt (w7.setCell ⟨g, 1, none⟩ v7) base g next v7 l' ∧ w7.heap[g]? = some (.cells #[.int .i64 next, v] 104 (0, 0)) := by
  have hb : w7.heap[g]? = some (.cells #[.int .i64 next, v] 104 (0, 0)) := by
    obtain ⟨sl, -, h2, -⟩ := h.objs
    exact (hg.block g (blk_lt h.blk) (fun e => own_apart h2 h.blk (by decide) e.symm rfl)).trans h.blk
  exact ⟨⟨h.lo, (blk_set hb 1 _).trans rfl, h7.move hb (by decide) (by decide) (fun k hk => Below.heap_setCell _ _ _ _ hk)⟩, hb⟩
end
end Go.Proofs.YthifdofdoeaemaaGreatDoor.Wk
end
section
namespace Go.Proofs.YthifdofdoeaemaaGreatDoor.Wk
open Go.RowKit Go.Proofs.YthifdofdoeaemaaGreatDoorW.PrintWords Go.Proofs.YthifdofdoeaemaaGreatDoorW.PrintLast Go.Proofs.YthifdofdoeaemaaGreatDoorW.PrintMore
attribute [local go_sem] max2_int min2_int max_two min_two max_three min_three max_four min_four
set_option linter.unusedVariables false
set_option linter.unusedSimpArgs false
section
open Go.RowKit Go.Lib Go.Maps Go.Proofs.YthifdofdoeaemaaGreatDoorQ
attribute [local go_sem] Oper.semAt_some
noncomputable def rchL (l : List (Int × GO)) : List (Int × GO) := l.filter (fun x => @decide (Rch (grL l) x.1) (Classical.propDecidable _))
def NodesAt2 (W : World) (b1 b2 : Nat) (v : Value) (l : List (Int × GO)) : Prop := ∃ sl : List Value, sl.length = l.length ∧ W.ownsRow b1 50 3 v l.length (nodeC l sl) ∧
  ∀ (j : Nat) (x : Int × GO) (u : Value), l[j]? = some x → sl[j]? = some u → W.ownsRow b2 42 3 u x.2.links.length (cells3 x.2.links)
theorem NodesAt2.one {W : World} {b1 b2 : Nat} {v : Value} {l : List (Int × GO)} (h : NodesAt2 W b1 b2 v l) (hb : b2 ≤ b1) : NodesAt W b2 v l := by
  obtain ⟨sl, h1, h2, h3⟩ := h
  exact ⟨sl, h1, h2.mono hb, h3⟩
theorem NodesAt2.below {w W : World} {b1 b2 : Nat} {v : Value} {l : List (Int × GO)} (h : NodesAt2 w b1 b2 v l) (hb : Below w.heap.size w W) : NodesAt2 W b1 b2 v l := by
  obtain ⟨sl, h1, h2, h3⟩ := h
  exact ⟨sl, h1, row_same h2 (SameOn.of_below (S := fun _ => True) hb) (fun _ _ => trivial), fun j x u hx hu => row_same (h3 j x u hx hu) (SameOn.of_below (S := fun _ => True) hb) (fun _ _ => trivial)⟩
theorem NodesAt2.push {w1 w2 : World} {b1 b2 : Nat} {v v' : Value} {l : List (Int × GO)} {x : Int × GO} {sl : List Value} {u : Value} (h1 : sl.length = l.length)
    (h2 : w2.ownsRow b1 50 3 v' (l.length + 1) (nodeC l sl ++ [.int .i64 x.1, .int .i64 x.2.kind, u]))
    (h3 : ∀ (j : Nat) (y : Int × GO) (z : Value), l[j]? = some y → sl[j]? = some z → w1.ownsRow b2 42 3 z y.2.links.length (cells3 y.2.links)) (hu : w1.ownsRow b2 42 3 u x.2.links.length (cells3 x.2.links))
    (ho : w1.ownsRow b1 50 3 v l.length (nodeC l sl)) (hg : w1.grownBy w2 v.ownBlock) : NodesAt2 w2 b1 b2 v' (l ++ [x]) := by
  have keep : ∀ {n : Nat} {z : Value} {ys : List Value}, w1.ownsRow b2 42 3 z n ys → w2.ownsRow b2 42 3 z n ys := fun {n z ys} hz =>
    own_move hz (fun k hk => hg.block k (hz.lt k hk).2 (fun e => rows_apart hz ho (by decide) hk e.symm))
  refine ⟨sl ++ [u], by simp [h1], ?_, fun j y z hy hz => ?_⟩
  · rw [nodeC_snoc l sl x u h1, List.length_append]
    exact h2
  · by_cases hj : j < l.length
    · rw [List.getElem?_append_left hj] at hy
      rw [List.getElem?_append_left (by omega)] at hz
      exact keep (h3 j y z hy hz)
    · have hj2 : j = l.length := by
        have := (List.getElem?_eq_some_iff.1 hy).1
        simp at this
        omega
      subst hj2
      rw [List.getElem?_append_right (Nat.le_refl _)] at hy
      rw [List.getElem?_append_right (by omega)] at hz
      simp at hy
      rw [h1] at hz
      simp at hz
      subst hy
      subst hz
      exact keep hu
theorem node_pushed2 {w5 : World} {b1 b2 : Nat} {v : Value} {l : List (Int × GO)} (hv : NodesAt2 w5 b1 b2 v l) (hbase : b1 ≤ w5.heap.size) {x : Int × GO} {A5 : Option Addr} {c5 : Nat} (h5 : w5.ownsRow b2 42 3 (.slice A5 x.2.links.length c5) x.2.links.length (cells3 x.2.links)) (hl : l.length ≤ bound) :
    ∃ A7 c7 w7, (Builtin.append_ #[46, 46] 46 #[v, .slice (some ⟨w5.heap.size, 0, none⟩) 1 1]).run Tryz.prog (w5.alloc (.cells #[.int .i64 x.1, .int .i64 x.2.kind, .slice A5 x.2.links.length c5] 50 (0, 0))) = .ok (.slice A7 (l.length + 1) c7) w7 ∧ NodesAt2 w7 b1 b2 (.slice A7 (l.length + 1) c7) (l ++ [x]) ∧ Below b1 w5 w7 := by
  obtain ⟨i0, hi0, hz0, hz1, hz2⟩ := info_parts (P := Tryz.prog) (e := 50) (z := .agg #[.int .i64 0, .int .i64 0, .slice none 0 0]) (size := 3) (bytes := 40) (by kernel_rfl)
  have hb6 : Below w5.heap.size w5 (w5.alloc (.cells #[.int .i64 x.1, .int .i64 x.2.kind, .slice A5 x.2.links.length c5] 50 (0, 0))) := below_alloc (Below.refl _ _) _
  obtain ⟨sl, n1, n2, n3⟩ := hv.below hb6
  have hnew : (w5.alloc (.cells #[.int .i64 x.1, .int .i64 x.2.kind, .slice A5 x.2.links.length c5] 50 (0, 0))).ownsRow w5.heap.size 50 3 (.slice (some ⟨w5.heap.size, 0, none⟩) 1 1) 1 [.int .i64 x.1, .int .i64 x.2.kind, .slice A5 x.2.links.length c5] := ⟨rfl, .inr ⟨_, 1, _, rfl, Nat.le_refl _, World.alloc_heap_new _ _, Nat.le_refl _, by decide, rfl, rfl⟩⟩
  obtain ⟨v7, w7, hr7, ho7, hg7⟩ := run_append_row (P := Tryz.prog) _ b1 w5.heap.size 46 46 50 i0 (.agg #[.int .i64 0, .int .i64 0, .slice none 0 0]) 3 40 Tryz.underlying46 hi0 hz0 hz1 hz2 rfl (by decide) v _ _ 1 _ _ n2 hnew (by simp [Value.oneCell']) (by unfold bound at hl; unfold maxLen; omega) (by unfold bound at hl; omega) (by have := hb6.size; omega)
  have hu5 := row_same h5 (SameOn.of_below (S := fun _ => True) hb6) (fun _ _ => trivial)
  have hpush := NodesAt2.push (x := x) n1 ho7 n3 hu5 n2 hg7
  obtain ⟨A7, c7, rfl⟩ := own_sl3 ho7
  exact ⟨A7, c7, w7, hr7, hpush, (hb6.mono hbase).grown hg7 (by have := hb6.size; omega) (own_base n2)⟩
theorem filter_snoc {p : Int × GO → Bool} {l : List (Int × GO)} {i : Nat} {x : Int × GO} (hx : l[i]? = some x) : (l.take (i + 1)).filter p = (l.take i).filter p ++ (if p x then [x] else []) := by
  obtain ⟨h1, e1⟩ := List.getElem?_eq_some_iff.1 hx
  rw [List.take_succ_eq_append_getElem h1, e1, List.filter_append]
  congr 1
  simp only [List.filter_cons, List.filter_nil]
set_option maxHeartbeats 8000000 in
set_option maxRecDepth 100000 in
theorem refReach_calls (w : World) (g : Nat) (next : Int) (A : Option Addr) (c : Nat) (l : List (Int × GO)) (hr : RefR w g next A c l) (ha : Asc l) (hp : ∀ x ∈ l, 0 < x.1) (h1 : has l 1) (hb : l.length ≤ 1000) (hlb : ∀ x ∈ l, x.2.links.length ≤ bound) :
    Calls Tryz.prog 60 #[.pointer (some ⟨g, 0, none⟩)] w fun e w' => ∃ v, e = .returned v ∧ NodesAt w' w.heap.size v (rchL l) ∧ Below w.heap.size w w' := by
  have HR := Aside0.mk hr
  have HA := Aside0.mk ha
  have HP := Aside0.mk hp
  have H1 := Aside0.mk h1
  have HB := Aside0.mk hb
  have HLB := Aside0.mk hlb
  obtain ⟨p, hpd⟩ : ∃ p : Int × GO → Bool, p = (fun x => @decide (Rch (grL l) x.1) (Classical.propDecidable _)) := ⟨_, rfl⟩
  have HPD := Aside0.mk hpd
  have HPX : Aside0 (∀ x, p x = true ↔ Rch (grL l) x.1) := ⟨fun x => by rw [hpd]; simp⟩
  clear hr ha hp h1 hb hlb hpd
  go_enter Tryz.func60, Tryz.ntmps60
  go_upto_region 3 with (go_at_call 59; refine (refNodes_calls _ g next A c l HR.out (by have := HB.out; unfold bound; omega) HLB.out).mono ?_; rintro e_ w2 ⟨v4, rfl, hn2, hb2⟩; obtain ⟨A4, c4, rfl⟩ := nodes_sl hn2; have HN2 := Aside0.mk hn2; have HB2 := Aside0.mk hb2; clear hn2 hb2)
  go_upto_region 4 with (go_at_call 55; refine (refReached_calls _ g next A c l (HR.out.below HB2.out) HA.out HP.out H1.out HB.out HLB.out).mono ?_; rintro e_ w3 ⟨wb, bl, rfl, hwb, hbl, hbll, hrch, hb3⟩; have HBLS := Aside0.mk hbl; have HBLL := Aside0.mk hbll; have HRCH := Aside0.mk hrch; have HB3 := Aside0.mk (HB2.out.trans (hb3.mono HB2.out.size)); have HN3 := Aside0.mk (HN2.out.below hb3); have HWB := Aside0.mk hwb; clear hwb hbl hbll hrch hb3)
  go_upto_region 5 with (fail)
  go_loopg [3, 6] l.length (fun kq v3 v6 W => ∃ (i : Nat) (iv : Int), v6 = .int .i64 iv ∧ Aside0 (iv = (i : Int)) ∧ Aside0 (i ≤ l.length ∧ l.length - i ≤ kq) ∧ Aside0 (NodesAt2 W w3.heap.size w.heap.size v3 ((l.take i).filter p)) ∧ Aside0 (Below w3.heap.size w3 W))
  case atStart => exact ⟨0, 0, rfl, ⟨rfl⟩, ⟨by omega, by omega⟩, ⟨⟨[], rfl, World.ownsRow_nil _ _ _ _, fun j u v hx _ => by simp at hx⟩⟩, ⟨Below.refl _ _⟩⟩
  case round =>
    obtain ⟨i, iv, rfl, HIV, HI, HO, HW⟩ := hrel
    by_cases hlt : i < l.length
    · obtain ⟨x, hx⟩ : ∃ x, l[i]? = some x := ⟨_, List.getElem?_eq_getElem hlt⟩
      have hNW := HN3.out.below HW.out
      obtain ⟨g4, c4', Ax, cx, e4, hg4, x0, x1, x2, xr⟩ := node_row hNW hx
      obtain ⟨rfl, rfl⟩ : A4 = some ⟨g4, 0, none⟩ ∧ c4 = c4' := by simpa using e4
      obtain ⟨bi, hbi⟩ : ∃ bi, bl[i]? = some bi := ⟨_, List.getElem?_eq_getElem (by have := HBLL.out; omega)⟩
      have hbl : wr.cell? ⟨wb, i, none⟩ = some (.bool bi) := (HW.out.cell (World.block_lt_of_cell? _ _ (HBLS.out.cell hbi))).trans (HBLS.out.cell hbi)
      have hbp : p x = bi := by
        have h1 := HRCH.out i x hx
        rw [hbi, ← HPX.out x] at h1
        cases bi <;> cases hq : p x <;> simp_all
      have HXR := Aside0.mk xr
      have q1 : decide (iv < (l.length : Int)) = true := decide_eq_true (by have := HIV.out; omega)
      have q2 : (iv < (l.length : Int)) = True := eq_true (by have := HIV.out; omega)
      have q3 : (0 : Int) ≤ iv := by have := HIV.out; omega
      have q4 : iv.toNat = i := by have := HIV.out; omega
      have w1_ : wrap64 (iv + 1) = iv + 1 := wrap_ok9 _ (by omega) (by have := HIV.out; have := HB.out; omega)
      have HLT := Aside0.mk hlt
      have hfs := filter_snoc (p := p) hx
      rw [hbp] at hfs
      have HFS := Aside0.mk hfs
      have HFL : Aside0 (((l.take i).filter p).length ≤ 1000) := ⟨by have h1 := List.length_filter_le p (l.take i); rw [List.length_take] at h1; have := HB.out; omega⟩
      clear hx hlt xr hNW e4 hbi hbp hfs hg4
      cases bi
      · go_wp2
        clear q4
        go_roundg (gk - 1)
        case measure => have := HI.out; have := HLT.out; omega
        case rel => exact ⟨i + 1, iv + 1, by first | rfl | rw [w1_], ⟨by have := HIV.out; omega⟩, ⟨by have := HLT.out; omega, by have := HI.out; omega⟩, ⟨by have := HFS.out; simp only [Bool.false_eq_true, if_false, List.append_nil] at this; rw [this]; exact HO.out⟩, HW⟩
      · obtain ⟨A7, c7, w7, hr7, hpush, hb7⟩ := node_pushed2 HO.out HW.out.size HXR.out (by have := HFL.out; unfold bound; omega)
        have hf2 := HFS.out
        simp only [if_true] at hf2
        rw [← hf2] at hpush
        have HR7 := Aside0.mk hr7
        have HPUSH := Aside0.mk hpush
        have HW7 := Aside0.mk (HW.out.trans hb7)
        clear hr7 hpush hb7 hf2
        go_wp2_with (at_builtin; refine wpList_append_run rfl _ _ 46 rfl rfl rfl HR7.out ?_)
        clear q4
        go_roundg (gk - 1)
        case measure => have := HI.out; have := HLT.out; omega
        case rel => exact ⟨i + 1, iv + 1, by first | rfl | rw [w1_], ⟨by have := HIV.out; omega⟩, ⟨by have := HLT.out; omega, by have := HI.out; omega⟩, HPUSH, HW7⟩
    · have q1 : decide (iv < (l.length : Int)) = false := decide_eq_false (by have := HIV.out; omega)
      have q2 : (iv < (l.length : Int)) = False := eq_false (by have := HIV.out; omega)
      have HLT := Aside0.mk hlt
      clear hlt
      go_wp2
      go_ret
      refine ⟨_, rfl, ?_, HB3.out.trans (HW.out.mono HB3.out.size)⟩
      have h9 := HO.out
      rw [List.take_of_length_le (by have := HLT.out; omega), HPD.out] at h9
      exact h9.one HB3.out.size
end
end Go.Proofs.YthifdofdoeaemaaGreatDoor.Wk
end
section
namespace Go.Proofs.YthifdofdoeaemaaGreatDoor.Wk
open Go.RowKit Go.Proofs.YthifdofdoeaemaaGreatDoorW.PrintWords Go.Proofs.YthifdofdoeaemaaGreatDoorW.PrintLast Go.Proofs.YthifdofdoeaemaaGreatDoorW.PrintMore
attribute [local go_sem] max2_int min2_int max_two min_two max_three min_three max_four min_four
set_option linter.unusedVariables false
set_option linter.unusedSimpArgs false
section
open Go.RowKit Go.Lib Go.Maps Go.Proofs.YthifdofdoeaemaaGreatDoorQ
attribute [local go_sem] Oper.semAt_some
set_option maxHeartbeats 4000000 in
set_option maxRecDepth 100000 in
theorem links_sameR (w : World) (A1 A2 : Option Addr) (c1 c2 : Nat) (l : List Lk) (h1 : LinksR w A1 l) (h2 : LinksR w A2 l) (hb : l.length ≤ bound) :
    Calls Tryz.prog 58 #[.slice A1 l.length c1, .slice A2 l.length c2] w fun e w' => e = .returned (.bool true) ∧ ∃ m, w' = w.drewN m := by
  have H1 := Aside0.mk h1
  have H2 := Aside0.mk h2
  have HB := Aside0.mk hb
  clear h1 h2 hb
  go_enter Tryz.func58, Tryz.ntmps58
  go_wp2
  go_loopg [5] l.length (fun kq v5 W => ∃ (j m : Nat) (jv : Int), v5 = .int .i64 jv ∧ Aside0 (jv = (j : Int)) ∧ Aside0 (j ≤ l.length ∧ l.length - j ≤ kq) ∧ W = w.drewN m)
  case atStart => exact ⟨0, 0, 0, rfl, ⟨rfl⟩, ⟨by omega, by omega⟩, rfl⟩
  case round =>
    obtain ⟨j, m, jv, rfl, HJV, HJ, rfl⟩ := hrel
    by_cases hlt : j < l.length
    · obtain ⟨k, hk⟩ : ∃ k, l[j]? = some k := ⟨_, List.getElem?_eq_getElem hlt⟩
      obtain ⟨g1, o1, rfl, -, k0, k1, k2⟩ := H1.out.at hk
      obtain ⟨g2, o2, rfl, -, e0, e1, e2⟩ := H2.out.at hk
      have q1 : decide (jv < (l.length : Int)) = true := decide_eq_true (by have := HJV.out; omega)
      have q2 : (jv < (l.length : Int)) = True := eq_true (by have := HJV.out; omega)
      have q3 : (0 : Int) ≤ jv := by have := HJV.out; omega
      have q4 : jv.toNat = j := by have := HJV.out; omega
      have w1_ : wrap64 (jv + 1) = jv + 1 := wrap_ok9 _ (by omega) (by have := HJV.out; have := HB.out; unfold bound at this; omega)
      have HLT := Aside0.mk hlt
      clear hk hlt
      go_upto_region 6 with (fail)
      go_big_quiet (fail)
      go_wp2
      clear q4
      go_roundg (gk - 1)
      case measure => have := HJ.out; have := HLT.out; omega
      case rel => exact ⟨j + 1, m + nq, jv + 1, by first | rfl | rw [w1_], ⟨by have := HJV.out; omega⟩, ⟨by have := HLT.out; omega, by have := HJ.out; omega⟩, rfl⟩
    · have q1 : decide (jv < (l.length : Int)) = false := decide_eq_false (by have := HJV.out; omega)
      have q2 : (jv < (l.length : Int)) = False := eq_false (by have := HJV.out; omega)
      go_wp2
      go_ret
      exact ⟨rfl, _, rfl⟩
set_option maxHeartbeats 4000000 in
set_option maxRecDepth 100000 in
theorem nodes_sameR (w : World) (A1 A2 : Option Addr) (c1 c2 : Nat) (l : List (Int × GO)) (h1 : NodesR w A1 l) (h2 : NodesR w A2 l) (hb : l.length ≤ bound) (hlb : ∀ x ∈ l, x.2.links.length ≤ bound) :
    Calls Tryz.prog 30 #[.slice A1 l.length c1, .slice A2 l.length c2] w fun e w' => e = .returned (.bool true) ∧ ∃ m, w' = w.drewN m := by
  have H1 := Aside0.mk h1
  have H2 := Aside0.mk h2
  have HB := Aside0.mk hb
  have HLB := Aside0.mk hlb
  clear h1 h2 hb hlb
  go_enter Tryz.func30, Tryz.ntmps30
  go_wp2
  go_loopg [5] l.length (fun kq v5 W => ∃ (j m : Nat) (jv : Int), v5 = .int .i64 jv ∧ Aside0 (jv = (j : Int)) ∧ Aside0 (j ≤ l.length ∧ l.length - j ≤ kq) ∧ Aside0 (W = w.drewN m))
  case atStart => exact ⟨0, 0, 0, rfl, ⟨rfl⟩, ⟨by omega, by omega⟩, ⟨rfl⟩⟩
  case round =>
    obtain ⟨j, m, jv, rfl, HJV, HJ, HW⟩ := hrel
    by_cases hlt : j < l.length
    · obtain ⟨x, hx⟩ : ∃ x, l[j]? = some x := ⟨_, List.getElem?_eq_getElem hlt⟩
      obtain ⟨g1, o1, B1, d1, rfl, -, x1, x2, x3, -, r1⟩ := H1.out.at hx
      obtain ⟨g2, o2, B2, d2, rfl, -, y1, y2, y3, -, r2⟩ := H2.out.at hx
      replace x1 : wr.cell? ⟨g1, o1 + j * 3, none⟩ = some (.int .i64 x.1) := by rw [HW.out]; exact x1
      replace x2 : wr.cell? ⟨g1, o1 + j * 3 + 1, none⟩ = some (.int .i64 x.2.kind) := by rw [HW.out]; exact x2
      replace x3 : wr.cell? ⟨g1, o1 + j * 3 + 2, none⟩ = some (.slice B1 x.2.links.length d1) := by rw [HW.out]; exact x3
      replace y1 : wr.cell? ⟨g2, o2 + j * 3, none⟩ = some (.int .i64 x.1) := by rw [HW.out]; exact y1
      replace y2 : wr.cell? ⟨g2, o2 + j * 3 + 1, none⟩ = some (.int .i64 x.2.kind) := by rw [HW.out]; exact y2
      replace y3 : wr.cell? ⟨g2, o2 + j * 3 + 2, none⟩ = some (.slice B2 x.2.links.length d2) := by rw [HW.out]; exact y3
      have HR1 : Aside0 (LinksR wr B1 x.2.links) := ⟨by rw [HW.out]; exact r1.below (below_dn2 _ _)⟩
      have HR2 : Aside0 (LinksR wr B2 x.2.links) := ⟨by rw [HW.out]; exact r2.below (below_dn2 _ _)⟩
      have HXM := Aside0.mk (List.mem_of_getElem? hx)
      have q1 : decide (jv < (l.length : Int)) = true := decide_eq_true (by have := HJV.out; omega)
      have q2 : (jv < (l.length : Int)) = True := eq_true (by have := HJV.out; omega)
      have q3 : (0 : Int) ≤ jv := by have := HJV.out; omega
      have q4 : jv.toNat = j := by have := HJV.out; omega
      have w1_ : wrap64 (jv + 1) = jv + 1 := wrap_ok9 _ (by omega) (by have := HJV.out; have := HB.out; unfold bound at this; omega)
      have HLT := Aside0.mk hlt
      clear hx hlt r1 r2
      go_upto_region 6 with (fail)
      go_big_quiet ((go_at_call 58; exact Calls.quiet_of (links_sameR _ _ _ _ _ _ (HR1.out.below (below_dn2 _ _)) (HR2.out.below (below_dn2 _ _)) (HLB.out _ HXM.out))))
      go_wp2
      clear q4
      go_roundg (gk - 1)
      case measure => have := HJ.out; have := HLT.out; omega
      case rel => exact ⟨j + 1, m + nq, jv + 1, by first | rfl | rw [w1_], ⟨by have := HJV.out; omega⟩, ⟨by have := HLT.out; omega, by have := HJ.out; omega⟩, ⟨by rw [HW.out, World.drewN_drewN]⟩⟩
    · have q1 : decide (jv < (l.length : Int)) = false := decide_eq_false (by have := HJV.out; omega)
      have q2 : (jv < (l.length : Int)) = False := eq_false (by have := HJV.out; omega)
      go_wp2
      go_ret
      exact ⟨rfl, m, HW.out⟩
end
end Go.Proofs.YthifdofdoeaemaaGreatDoor.Wk
end
section
namespace Go.Proofs.YthifdofdoeaemaaGreatDoor.Wk
open Go.RowKit Go.Proofs.YthifdofdoeaemaaGreatDoorW.PrintWords Go.Proofs.YthifdofdoeaemaaGreatDoorW.PrintLast Go.Proofs.YthifdofdoeaemaaGreatDoorW.PrintMore
attribute [local go_sem] max2_int min2_int max_two min_two max_three min_three max_four min_four
set_option linter.unusedVariables false
set_option linter.unusedSimpArgs false
section
open Go.RowKit Go.Lib Go.Maps Go.Proofs.YthifdofdoeaemaaGreatDoorQ
attribute [local go_sem] Oper.semAt_some
def LkShape (w W : World) : Prop := ∀ (k : Nat) (cs : Array Value), w.heap[k]? = some (.cells cs 42 (0, 0)) → ∃ cs' : Array Value, W.heap[k]? = some (.cells cs' 42 (0, 0)) ∧ cs'.size = cs.size
theorem LkShape.refl (w : World) : LkShape w w := fun k cs h => ⟨cs, h, rfl⟩
theorem LkShape.set {w W : World} (h : LkShape w W) {g : Nat} {cs : Array Value} (hg : W.heap[g]? = some (.cells cs 42 (0, 0))) (i : Nat) (u : Value) : LkShape w (W.setCell ⟨g, i, none⟩ u) := fun k c hk => by
  obtain ⟨c', h1, h2⟩ := h k c hk
  by_cases e : k = g
  · subst e
    rw [hg] at h1
    cases h1
    exact ⟨_, blk_set hg i u, by rw [Array.size_setIfInBounds]; exact h2⟩
  · exact ⟨c', (Below.heap_setCell _ _ _ _ e).trans h1, h2⟩
theorem spoil_row {w W : World} {base n c : Nat} {A : Option Addr} {l : List Lk} (hr : w.ownsRow base 42 3 (.slice A n c) n (cells3 l)) (hn : n = l.length) (hs : LkShape w W) {j : Nat} (hj : j < l.length) :
    ∃ (g : Nat) (cs : Array Value), A = some ⟨g, 0, none⟩ ∧ base ≤ g ∧ g < w.heap.size ∧ W.heap[g]? = some (.cells cs 42 (0, 0)) ∧ j * 3 + 2 < cs.size := by
  rcases hr.2 with ⟨h4, h5⟩ | ⟨g, cap, cur, h4, h5, h6, h7, h8, h9, -⟩
  · omega
  · cases h4
    obtain ⟨cs, h10, h11⟩ := hs g cur h6
    exact ⟨g, cs, rfl, h5, blk_lt h6, h10, by rw [h11, h9]; omega⟩
theorem cell_heap {w W : World} {b : Nat} (h : W.heap[b]? = w.heap[b]?) {cs : Array Value} {t : TypeId} (hb : w.heap[b]? = some (.cells cs t (0, 0))) (i : Nat) : W.cell? ⟨b, i, none⟩ = w.cell? ⟨b, i, none⟩ := by
  rw [blk_cell hb, blk_cell (h.trans hb)]
theorem NodesAt.typed {W : World} {base g n c : Nat} {l : List (Int × GO)} (h : NodesAt W base (.slice (some ⟨g, 0, none⟩) n c) l) : ∃ cs, W.heap[g]? = some (.cells cs 50 (0, 0)) := by
  obtain ⟨sl, -, h2, -⟩ := h
  exact own_typed h2 g rfl
theorem rch_len (l : List (Int × GO)) : (rchL l).length ≤ l.length := List.length_filter_le _ _
theorem rch_mem {l : List (Int × GO)} {x : Int × GO} (h : x ∈ rchL l) : x ∈ l := (List.mem_filter.1 h).1
set_option maxHeartbeats 16000000 in
set_option maxRecDepth 100000 in
theorem alike_calls (w : World) (vg : Value) (next : Int) (g : Nat) (A : Option Addr) (c : Nat) (l : List (Int × GO)) (hr : RefR w g next A c l) (ha : Asc l) (hp : ∀ x ∈ l, 0 < x.1) (h1 : has l 1) (hb : l.length ≤ 1000) (hlb : ∀ x ∈ l, x.2.links.length ≤ bound)
    (hN : ∀ W, Below w.heap.size w W → Calls Tryz.prog 23 #[vg] W fun e w' => ∃ v, e = .returned v ∧ NodesAt w' W.heap.size v l ∧ Below W.heap.size W w')
    (hX : ∀ W, Below w.heap.size w W → Calls Tryz.prog 24 #[vg] W fun e w' => e = .returned (.int .i64 next) ∧ w' = W)
    (hR : ∀ W, Below w.heap.size w W → Calls Tryz.prog 32 #[vg] W fun e w' => ∃ v, e = .returned v ∧ NodesAt w' W.heap.size v (rchL l) ∧ Below W.heap.size W w') :
    Calls Tryz.prog 31 #[vg, .pointer (some ⟨g, 0, none⟩)] w fun e w' => e = .returned (.bool true) ∧ Below w.heap.size w w' := by
  have HR := Aside0.mk hr
  have HA := Aside0.mk ha
  have HP := Aside0.mk hp
  have H1 := Aside0.mk h1
  have HB := Aside0.mk hb
  have HLB := Aside0.mk hlb
  have HBD : Aside0 (l.length ≤ bound) := ⟨by unfold bound; omega⟩
  have HNN := Aside0.mk hN
  have HXX := Aside0.mk hX
  have HRR := Aside0.mk hR
  clear hr ha hp h1 hb hlb hN hX hR
  go_enter Tryz.func31, Tryz.ntmps31
  go_upto_region 2 with (go_at_call 23; refine (HNN.out w (Below.refl _ _)).mono ?_; rintro e_ w1 ⟨v5, rfl, hn5, hb1⟩; obtain ⟨A5, c5, rfl⟩ := nodes_sl hn5; have HN5 := Aside0.mk hn5; have HB1 := Aside0.mk hb1; clear hn5 hb1)
  have hS : w1.drew.cell? ⟨g, 0, none⟩ = some (.int .i64 next) ∧ Below w1.heap.size w1 w1.drew := ⟨(HR.out.below HB1.out).c0, below_drew (Below.refl _ _)⟩
  refine start_ (n := 22) (S := fun W' => W'.cell? ⟨g, 0, none⟩ = some (.int .i64 next) ∧ Below w1.heap.size w1 W') (ds := []) #[false, false, false, false, false, false, false, false, false, false, false, false, false, false, false, false, false, false, false, false, false, false] (by kernel_rfl) rfl rfl hS (fun hHeld => ?_)
  refine pure_ (i := 0) (N := some 10) (v := ?_) (a' := ?_) (bb 22 1) rfl rfl (by kernel_rfl) (fun _ _ _ h => h) (Or.inl ⟨by rfl, ?_⟩) ?_ ?_
  rotate_left
  · intro w'
    go_simp
    with_reducible rfl
  rotate_left
  · simp only [Act.put, sa, sz, ss, i64_w, i32_w]
    rfl
  refine pure_ (i := 2) (N := some 12) (v := ?_) (a' := ?_) (bb 22 5) rfl rfl (by kernel_rfl) (fun _ _ _ h => h) (Or.inl ⟨by rfl, ?_⟩) ?_ ?_
  rotate_left
  · intro w'
    go_simp
    with_reducible rfl
  rotate_left
  · simp only [Act.put, sa, sz, ss, i64_w, i32_w]
    rfl
  refine pure_ (i := 3) (N := some 13) (v := ?_) (a' := ?_) (bb 22 13) rfl rfl (by kernel_rfl) (fun _ _ _ h => h) (Or.inl ⟨by rfl, ?_⟩) ?_ ?_
  rotate_left
  · intro w'
    go_simp
    with_reducible rfl
  rotate_left
  · simp only [Act.put, sa, sz, ss, i64_w, i32_w]
    rfl
  refine pure_ (i := 4) (N := some 14) (v := ?_) (a' := ?_) (bb 22 29) rfl rfl (by kernel_rfl) (fun _ _ _ h => h) (Or.inl ⟨by rfl, ?_⟩) ?_ ?_
  rotate_left
  · intro w'
    go_simp
    with_reducible rfl
  rotate_left
  · simp only [Act.put, sa, sz, ss, i64_w, i32_w]
    rfl
  refine take_ (i := 5) (N := some 15) (v := ?_) (a' := ?_) (bb 22 61) rfl rfl (by kernel_rfl) (fun _ _ _ h => h) (Or.inl ⟨by rfl, ?_⟩) hHeld ?_ ?_
  rotate_left
  · rintro w' ⟨s1_, s2_⟩
    go_simp
    with_reducible rfl
  rotate_left
  · simp only [Act.put, sa, sz, ss, i64_w, i32_w]
    rfl
  refine one_ (i := 1) (N := some 11) (bb 22 63) rfl rfl (by kernel_rfl) (by decide) (fun K hK => ?_)
  skip
  refine goes_ Tryz.func24 (by kernel_rfl) rfl #[vg] (by rfl) rfl rfl (by (simp only [List.map_toArray, List.map_cons, List.map_nil]); rfl) ?_
  refine (HXX.out _ (HB1.out.trans (hHeld.2.mono HB1.out.size))).mono ?_
  rintro e_ w2 ⟨rfl, h0⟩
  obtain rfl := h0.symm
  refine ⟨_, rfl, ?_⟩
  refine hK.out _ _ hHeld (fun hHeld => ?_)
  clear hK K
  refine norm_ (a' := ?_) ?_ ?_
  rotate_left
  · show Act.put _ (some 11) _ = _
    simp only [Act.put, sa, sz, ss, i64_w, i32_w]
    rfl
  refine pure_ (i := 6) (N := some 16) (v := ?_) (a' := ?_) (bb 22 127) rfl rfl (by kernel_rfl) (fun _ _ _ h => h) (Or.inl ⟨by rfl, ?_⟩) ?_ ?_
  rotate_left
  · intro w'
    go_simp
    with_reducible rfl
  rotate_left
  · simp only [Act.put, sa, sz, ss, i64_w, i32_w]
    rfl
  refine pure_ (i := 7) (N := some 17) (v := ?_) (a' := ?_) (bb 22 255) rfl rfl (by kernel_rfl) (fun _ _ _ h => h) (Or.inl ⟨by rfl, ?_⟩) ?_ ?_
  rotate_left
  · intro w'
    go_simp
    with_reducible rfl
  rotate_left
  · simp only [Act.put, sa, sz, ss, i64_w, i32_w]
    rfl
  refine pure_ (i := 8) (N := some 18) (v := ?_) (a' := ?_) (bb 22 511) rfl rfl (by kernel_rfl) (fun _ _ _ h => h) (Or.inl ⟨by rfl, ?_⟩) ?_ ?_
  rotate_left
  · intro w'
    go_simp
    with_reducible rfl
  rotate_left
  · simp only [Act.put, sa, sz, ss, i64_w, i32_w]
    rfl
  refine pure_ (i := 9) (N := some 19) (v := ?_) (a' := ?_) (bb 22 1023) rfl rfl (by kernel_rfl) (fun _ _ _ h => h) (Or.inl ⟨by rfl, ?_⟩) ?_ ?_
  rotate_left
  · intro w'
    go_simp
    with_reducible rfl
  rotate_left
  · simp only [Act.put, sa, sz, ss, i64_w, i32_w]
    rfl
  have HB2 : Aside0 (Below w.heap.size w w1.drew) := ⟨HB1.out.trans (hHeld.2.mono HB1.out.size)⟩
  have HN2 := Aside0.mk (HN5.out.below hHeld.2)
  refine one_ (i := 10) (N := some 20) (bb 22 2047) rfl rfl (by kernel_rfl) (by decide) (fun K hK => ?_)
  skip
  refine goes_ Tryz.func59 (by kernel_rfl) rfl #[.pointer (some ⟨g, 0, none⟩)] (by rfl) rfl rfl (by (simp only [List.map_toArray, List.map_cons, List.map_nil]); rfl) ?_
  refine (refNodes_calls _ g next A c l (HR.out.below HB2.out) HBD.out HLB.out).mono ?_
  rintro e_ w3 ⟨v20, rfl, hn3, hb_⟩
  obtain ⟨A6, c6, rfl⟩ := nodes_sl hn3
  refine ⟨_, rfl, ?_⟩
  refine hK.out _ _ ⟨(hb_.cell (World.block_lt_of_cell? _ _ hHeld.1)).trans hHeld.1, hHeld.2.trans (hb_.mono hHeld.2.size)⟩ (fun hHeld => ?_)
  clear hK K
  refine norm_ (a' := ?_) ?_ ?_
  rotate_left
  · show Act.put _ (some 20) _ = _
    simp only [Act.put, sa, sz, ss, i64_w, i32_w]
    rfl
  have HB3 : Aside0 (Below w.heap.size w w3) := ⟨HB2.out.trans (hb_.mono HB2.out.size)⟩
  have HN3 := Aside0.mk (HN2.out.below hb_)
  have HM3 := Aside0.mk hn3
  clear hb_ hn3
  refine one_ (i := 11) (N := some 21) (bb 22 4095) rfl rfl (by kernel_rfl) (by decide) (fun K hK => ?_)
  skip
  refine goes_ Tryz.func30 (by kernel_rfl) rfl #[.slice A5 l.length c5, .slice A6 l.length c6] (by rfl) rfl rfl (by (simp only [List.map_toArray, List.map_cons, List.map_nil]); rfl) ?_
  refine (nodes_sameR _ A5 A6 c5 c6 l (nodes_own HN3.out) (nodes_own HM3.out) HBD.out HLB.out).mono ?_
  rintro e_ w4 ⟨rfl, m4, hw4⟩
  have hb_ := below_dn2 w3 m4
  rw [← hw4] at hb_
  refine ⟨_, rfl, ?_⟩
  refine hK.out _ _ ⟨(hb_.cell (World.block_lt_of_cell? _ _ hHeld.1)).trans hHeld.1, hHeld.2.trans (hb_.mono hHeld.2.size)⟩ (fun hHeld => ?_)
  clear hK K
  refine norm_ (a' := ?_) ?_ ?_
  rotate_left
  · show Act.put _ (some 21) _ = _
    simp only [Act.put, sa, sz, ss, i64_w, i32_w]
    rfl
  have HB4 : Aside0 (Below w.heap.size w w4) := ⟨HB3.out.trans (hb_.mono HB3.out.size)⟩
  have HN4 := Aside0.mk (HN3.out.below hb_)
  clear hb_ hw4
  refine pure_ (i := 12) (N := some 22) (v := ?_) (a' := ?_) (bb 22 8191) rfl rfl (by kernel_rfl) (fun _ _ _ h => h) (Or.inl ⟨by rfl, ?_⟩) ?_ ?_
  rotate_left
  · intro w'
    go_simp
    with_reducible rfl
  rotate_left
  · simp only [Act.put, sa, sz, ss, i64_w, i32_w]
    rfl
  refine pure_ (i := 13) (N := some 23) (v := ?_) (a' := ?_) (bb 22 16383) rfl rfl (by kernel_rfl) (fun _ _ _ h => h) (Or.inl ⟨by rfl, ?_⟩) ?_ ?_
  rotate_left
  · intro w'
    go_simp
    with_reducible rfl
  rotate_left
  · simp only [Act.put, sa, sz, ss, i64_w, i32_w]
    rfl
  refine pure_ (i := 14) (N := some 24) (v := ?_) (a' := ?_) (bb 22 32767) rfl rfl (by kernel_rfl) (fun _ _ _ h => h) (Or.inl ⟨by rfl, ?_⟩) ?_ ?_
  rotate_left
  · intro w'
    go_simp
    with_reducible rfl
  rotate_left
  · simp only [Act.put, sa, sz, ss, i64_w, i32_w]
    rfl
  refine pure_ (i := 15) (N := some 25) (v := ?_) (a' := ?_) (bb 22 65535) rfl rfl (by kernel_rfl) (fun _ _ _ h => h) (Or.inl ⟨by rfl, ?_⟩) ?_ ?_
  rotate_left
  · intro w'
    go_simp
    with_reducible rfl
  rotate_left
  · simp only [Act.put, sa, sz, ss, i64_w, i32_w]
    rfl
  refine pure_ (i := 17) (N := some 27) (v := ?_) (a' := ?_) (bb 22 196607) rfl rfl (by kernel_rfl) (fun _ _ _ h => h) (Or.inl ⟨by rfl, ?_⟩) ?_ ?_
  rotate_left
  · intro w'
    go_simp
    with_reducible rfl
  rotate_left
  · simp only [Act.put, sa, sz, ss, i64_w, i32_w]
    rfl
  refine one_ (i := 16) (N := some 26) (bb 22 262143) rfl rfl (by kernel_rfl) (by decide) (fun K hK => ?_)
  skip
  refine goes_ Tryz.func32 (by kernel_rfl) rfl #[vg] (by rfl) rfl rfl (by (simp only [List.map_toArray, List.map_cons, List.map_nil]); rfl) ?_
  refine (HRR.out _ HB4.out).mono ?_
  rintro e_ w5 ⟨v26, rfl, hn5, hb_⟩
  obtain ⟨A7, c7, rfl⟩ := nodes_sl hn5
  refine ⟨_, rfl, ?_⟩
  refine hK.out _ _ ⟨(hb_.cell (World.block_lt_of_cell? _ _ hHeld.1)).trans hHeld.1, hHeld.2.trans (hb_.mono hHeld.2.size)⟩ (fun hHeld => ?_)
  clear hK K
  refine norm_ (a' := ?_) ?_ ?_
  rotate_left
  · show Act.put _ (some 26) _ = _
    simp only [Act.put, sa, sz, ss, i64_w, i32_w]
    rfl
  have HB5 : Aside0 (Below w.heap.size w w5) := ⟨HB4.out.trans (hb_.mono HB4.out.size)⟩
  have HN5 := Aside0.mk (HN4.out.below hb_)
  have HM5 := Aside0.mk hn5
  clear hb_ hn5
  refine one_ (i := 18) (N := some 28) (bb 22 524287) rfl rfl (by kernel_rfl) (by decide) (fun K hK => ?_)
  skip
  refine goes_ Tryz.func60 (by kernel_rfl) rfl #[.pointer (some ⟨g, 0, none⟩)] (by rfl) rfl rfl (by (simp only [List.map_toArray, List.map_cons, List.map_nil]); rfl) ?_
  refine (refReach_calls _ g next A c l (HR.out.below HB5.out) HA.out HP.out H1.out HB.out HLB.out).mono ?_
  rintro e_ w6 ⟨v28, rfl, hn6, hb_⟩
  obtain ⟨A8, c8, rfl⟩ := nodes_sl hn6
  refine ⟨_, rfl, ?_⟩
  refine hK.out _ _ ⟨(hb_.cell (World.block_lt_of_cell? _ _ hHeld.1)).trans hHeld.1, hHeld.2.trans (hb_.mono hHeld.2.size)⟩ (fun hHeld => ?_)
  clear hK K
  refine norm_ (a' := ?_) ?_ ?_
  rotate_left
  · show Act.put _ (some 28) _ = _
    simp only [Act.put, sa, sz, ss, i64_w, i32_w]
    rfl
  have HB6 : Aside0 (Below w.heap.size w w6) := ⟨HB5.out.trans (hb_.mono HB5.out.size)⟩
  have HN6 := Aside0.mk (HN5.out.below hb_)
  have HM6 := Aside0.mk (HM5.out.below hb_)
  have HP6 := Aside0.mk hn6
  clear hb_ hn6
  refine one_ (i := 19) (N := some 29) (bb 22 1048575) rfl rfl (by kernel_rfl) (by decide) (fun K hK => ?_)
  skip
  refine goes_ Tryz.func30 (by kernel_rfl) rfl #[.slice A7 (rchL l).length c7, .slice A8 (rchL l).length c8] (by rfl) rfl rfl (by (simp only [List.map_toArray, List.map_cons, List.map_nil]); rfl) ?_
  refine (nodes_sameR _ A7 A8 c7 c8 (rchL l) (nodes_own HM6.out) (nodes_own HP6.out) (Nat.le_trans (rch_len l) HBD.out) (fun x hx => HLB.out x (rch_mem hx))).mono ?_
  rintro e_ w7 ⟨rfl, m7, hw7⟩
  have hb_ := below_dn2 w6 m7
  rw [← hw7] at hb_
  refine ⟨_, rfl, ?_⟩
  refine hK.out _ _ ⟨(hb_.cell (World.block_lt_of_cell? _ _ hHeld.1)).trans hHeld.1, hHeld.2.trans (hb_.mono hHeld.2.size)⟩ (fun hHeld => ?_)
  clear hK K
  refine norm_ (a' := ?_) ?_ ?_
  rotate_left
  · show Act.put _ (some 29) _ = _
    simp only [Act.put, sa, sz, ss, i64_w, i32_w]
    rfl
  have HB7 : Aside0 (Below w.heap.size w w7) := ⟨HB6.out.trans (hb_.mono HB6.out.size)⟩
  have HN7 := Aside0.mk (HN6.out.below hb_)
  clear hb_ hw7
  refine pure_ (i := 20) (N := some 30) (v := ?_) (a' := ?_) (bb 22 2097151) rfl rfl (by kernel_rfl) (fun _ _ _ h => h) (Or.inl ⟨by rfl, ?_⟩) ?_ ?_
  rotate_left
  · intro w'
    go_simp
    with_reducible rfl
  rotate_left
  · simp only [Act.put, sa, sz, ss, i64_w, i32_w]
    rfl
  refine pure_ (i := 21) (N := some 31) (v := ?_) (a' := ?_) (bb 22 4194303) rfl rfl (by kernel_rfl) (fun _ _ _ h => h) (Or.inl ⟨by rfl, ?_⟩) ?_ ?_
  rotate_left
  · intro w'
    go_simp
    with_reducible rfl
  rotate_left
  · simp only [Act.put, sa, sz, ss, i64_w, i32_w]
    rfl
  refine done_ (by kernel_rfl) ?_
  clear hS hHeld
  go_upto_region 5 with (fail)
  go_loopg [6] l.length (fun kq v6 W => ∃ (i : Nat) (iv : Int), v6 = .int .i64 iv ∧ Aside0 (iv = (i : Int)) ∧ Aside0 (i ≤ l.length ∧ l.length - i ≤ kq) ∧ Aside0 (Below w.heap.size w W) ∧ Aside0 (LkShape w7 W) ∧ Aside0 (∀ b, A5 = some (⟨b, 0, none⟩ : Addr) → W.heap[b]? = w7.heap[b]?))
  case atStart => exact ⟨0, 0, rfl, ⟨rfl⟩, ⟨by omega, by omega⟩, HB7, ⟨LkShape.refl _⟩, ⟨fun _ _ => rfl⟩⟩
  case round =>
    obtain ⟨i, iv, rfl, HIV, HI, HBW, HSH, HGN⟩ := hrel
    by_cases hlt : i < l.length
    · obtain ⟨x, hx⟩ : ∃ x, l[i]? = some x := ⟨_, List.getElem?_eq_getElem hlt⟩
      obtain ⟨gn, c5', Ax, cx, e5, hgn, -, -, x2, xr⟩ := node_row HN7.out hx
      obtain ⟨rfl, rfl⟩ : A5 = some ⟨gn, 0, none⟩ ∧ c5 = c5' := by simpa using e5
      obtain ⟨cn, hcn⟩ := HN7.out.typed
      have HCN := Aside0.mk hcn
      have HX2 := Aside0.mk x2
      have HXR := Aside0.mk xr
      have y2 : wr.cell? ⟨gn, i * 3 + 2, none⟩ = some (.slice Ax x.2.links.length cx) := (cell_heap (HGN.out gn rfl) hcn _).trans x2
      have q1 : decide (iv < (l.length : Int)) = true := decide_eq_true (by have := HIV.out; omega)
      have q2 : (iv < (l.length : Int)) = True := eq_true (by have := HIV.out; omega)
      have q3 : (0 : Int) ≤ iv := by have := HIV.out; omega
      have q4 : iv.toNat = i := by have := HIV.out; omega
      have w1_ : wrap64 (iv + 1) = iv + 1 := wrap_ok9 _ (by omega) (by have := HIV.out; have := HB.out; omega)
      have HXB := Aside0.mk (HLB.out x (List.mem_of_getElem? hx))
      have HLT := Aside0.mk hlt
      obtain ⟨gk0, HGK⟩ : ∃ gk0, Aside0 (gk0 = gk) := ⟨_, ⟨rfl⟩⟩
      clear hx hlt e5 hgn x2 xr hcn
      go_upto_region 8 with (fail)
      clear y2
      go_loopg [7] x.2.links.length (fun kq v7 W => ∃ (m : Nat) (mv : Int), v7 = .int .i64 mv ∧ Aside0 (mv = (m : Int)) ∧ Aside0 (m ≤ x.2.links.length ∧ x.2.links.length - m ≤ kq) ∧ Aside0 (Below w.heap.size w W) ∧ Aside0 (LkShape w7 W) ∧ Aside0 (W.heap[gn]? = w7.heap[gn]?))
      case atStart => exact ⟨0, 0, rfl, ⟨rfl⟩, ⟨by omega, by omega⟩, HBW, HSH, ⟨HGN.out gn rfl⟩⟩
      case round =>
        obtain ⟨m, mv, rfl, HMV, HM, HBM, HSM, HGM⟩ := hrel
        have y2 : wr.cell? ⟨gn, i * 3 + 2, none⟩ = some (.slice Ax x.2.links.length cx) := (cell_heap HGM.out HCN.out _).trans HX2.out
        by_cases hmt : m < x.2.links.length
        · obtain ⟨gl, cs, rfl, hgl, hgl2, hcs, hsz⟩ := spoil_row HXR.out rfl HSM.out hmt
          have f1 : wr.frozen? ⟨gl, m * 3, none⟩ = false := blk_frozen hcs _
          obtain ⟨u0, hu0⟩ : ∃ u0, wr.cell? ⟨gl, m * 3, none⟩ = some u0 := ⟨cs[m * 3]'(by omega), (blk_cell hcs _).trans (Array.getElem?_eq_getElem _)⟩
          have HCS := Aside0.mk hcs
          have HGL := Aside0.mk hgl
          have HNE : Aside0 (gn ≠ gl) := ⟨by
            rintro rfl
            have h1 := (HGM.out).trans HCN.out
            rw [hcs] at h1
            cases h1⟩
          have p1 : decide (mv < (x.2.links.length : Int)) = true := decide_eq_true (by have := HMV.out; omega)
          have p2 : (mv < (x.2.links.length : Int)) = True := eq_true (by have := HMV.out; omega)
          have p3 : (0 : Int) ≤ mv := by have := HMV.out; omega
          have p4 : mv.toNat = m := by have := HMV.out; omega
          have w2_ : wrap64 (mv + 1) = mv + 1 := wrap_ok9 _ (by omega) (by have := HMV.out; have := HXB.out; unfold bound at this; omega)
          have HMT := Aside0.mk hmt
          clear hcs hgl hgl2 hsz hmt
          go_wp2
          clear p4
          go_roundg (gk - 1)
          case measure => have := HM.out; have := HMT.out; omega
          case rel => exact ⟨m + 1, mv + 1, by first | rfl | rw [w2_], ⟨by have := HMV.out; omega⟩, ⟨by have := HMT.out; omega, by have := HM.out; omega⟩, ⟨HBM.out.setCell HGL.out _⟩, ⟨HSM.out.set HCS.out _ _⟩, ⟨(Below.heap_setCell _ _ _ _ HNE.out).trans HGM.out⟩⟩
        · have p1 : decide (mv < (x.2.links.length : Int)) = false := decide_eq_false (by have := HMV.out; omega)
          have p2 : (mv < (x.2.links.length : Int)) = False := eq_false (by have := HMV.out; omega)
          clear hmt
          go_wp2
          clear q4
          go_roundg (gk0 - 1)
          case measure => have := HI.out; have := HLT.out; have := HGK.out; omega
          case rel => exact ⟨i + 1, iv + 1, by first | rfl | rw [w1_], ⟨by have := HIV.out; omega⟩, ⟨by have := HLT.out; omega, by have := HI.out; have := HGK.out; omega⟩, HBM, HSM, ⟨fun b hb => by cases hb; exact HGM.out⟩⟩
    · have q1 : decide (iv < (l.length : Int)) = false := decide_eq_false (by have := HIV.out; omega)
      have q2 : (iv < (l.length : Int)) = False := eq_false (by have := HIV.out; omega)
      clear hlt
      go_wp2_with (first
        | (go_at_call 23; refine (HNN.out _ HBW.out).mono ?_; rintro e_ w8 ⟨v8, rfl, hn8, hb8⟩; obtain ⟨A8, c8, rfl⟩ := nodes_sl hn8; have HN8 := Aside0.mk hn8; have HB8 := Aside0.mk (HBW.out.trans (hb8.mono HBW.out.size)); clear hn8 hb8)
        | (go_at_call 59; refine (refNodes_calls _ g next A c l (HR.out.below HB8.out) HBD.out HLB.out).mono ?_; rintro e_ w9 ⟨v9, rfl, hn9, hb9⟩; obtain ⟨A9, c9, rfl⟩ := nodes_sl hn9; have HN9 := Aside0.mk hn9; have HM9 := Aside0.mk (HN8.out.below hb9); have HB9 := Aside0.mk (HB8.out.trans (hb9.mono HB8.out.size)); clear hn9 hb9)
        | (go_at_call 30; refine (nodes_sameR _ _ _ _ _ l (nodes_own HM9.out) (nodes_own HN9.out) HBD.out HLB.out).mono ?_; rintro e_ wa ⟨rfl, ma, hwa⟩; have hba := below_dn2 w9 ma; rw [← hwa] at hba; have HBa := Aside0.mk (HB9.out.trans (hba.mono HB9.out.size)); clear hba hwa))
      go_ret
      exact ⟨rfl, HBa.out⟩
end
end Go.Proofs.YthifdofdoeaemaaGreatDoor.Wk
end
section
namespace Go.Proofs.YthifdofdoeaemaaGreatDoor.Wk
open Go.RowKit Go.Proofs.YthifdofdoeaemaaGreatDoorW.PrintWords Go.Proofs.YthifdofdoeaemaaGreatDoorW.PrintLast Go.Proofs.YthifdofdoeaemaaGreatDoorW.PrintMore
attribute [local go_sem] max2_int min2_int max_two min_two max_three min_three max_four min_four
set_option linter.unusedVariables false
set_option linter.unusedSimpArgs false
section
open Go.RowKit Go.Lib Go.Maps Go.Proofs.YthifdofdoeaemaaGreatDoorQ
def RefF (W : World) (F : Nat → Prop) (g : Nat) (next : Int) (l : List (Int × GO)) : Prop :=
  F g ∧ ∃ v sl, W.heap[g]? = some (.cells #[.int .i64 next, v] 104 (0, 0)) ∧ sl.length = l.length ∧ W.ownsRow 0 106 4 v l.length (objC l sl) ∧ (∀ k, v.ownBlock = some k → F k) ∧
  ∀ (j : Nat) (x : Int × GO) (u : Value), l[j]? = some x → sl[j]? = some u → W.ownsRow 0 42 3 u x.2.links.length (cells3 x.2.links) ∧ ∀ k, u.ownBlock = some k → F k
theorem RefF.same {W W' : World} {F S : Nat → Prop} {g : Nat} {next : Int} {l : List (Int × GO)} (h : RefF W F g next l) (hs : SameOn S W W') (hS : ∀ k, F k → S k) : RefF W' F g next l := by
  obtain ⟨h0, v, sl, h1, h2, h3, h4, h5⟩ := h
  exact ⟨h0, v, sl, (hs.same g (hS g h0) (blk_lt h1)).trans h1, h2, row_same h3 hs (fun k hk => hS k (h4 k hk)), h4, fun j x u hx hu => ⟨row_same (h5 j x u hx hu).1 hs (fun k hk => hS k ((h5 j x u hx hu).2 k hk)), (h5 j x u hx hu).2⟩⟩
theorem RefF.below {W W' : World} {F : Nat → Prop} {g : Nat} {next : Int} {l : List (Int × GO)} (h : RefF W F g next l) (hb : Below W.heap.size W W') : RefF W' F g next l :=
  h.same (SameOn.of_below (S := fun _ => True) hb) (fun _ _ => trivial)
theorem RefF.mono {W : World} {F F' : Nat → Prop} {g : Nat} {next : Int} {l : List (Int × GO)} (h : RefF W F g next l) (hF : ∀ k, F k → F' k) : RefF W F' g next l := by
  obtain ⟨h0, v, sl, h1, h2, h3, h4, h5⟩ := h
  exact ⟨hF _ h0, v, sl, h1, h2, h3, fun k hk => hF _ (h4 k hk), fun j x u hx hu => ⟨(h5 j x u hx hu).1, fun k hk => hF _ ((h5 j x u hx hu).2 k hk)⟩⟩
theorem RefF.at0 {W : World} {F : Nat → Prop} {g : Nat} {next : Int} {l : List (Int × GO)} (h : RefF W F g next l) : ∃ v, RefAt W 0 g next v l := by
  obtain ⟨h0, v, sl, h1, h2, h3, h4, h5⟩ := h
  exact ⟨v, Nat.zero_le _, h1, sl, h2, h3, fun j x u hx hu => (h5 j x u hx hu).1⟩
theorem RefF.R {W : World} {F : Nat → Prop} {g : Nat} {next : Int} {l : List (Int × GO)} (h : RefF W F g next l) : ∃ A c, RefR W g next A c l := by
  obtain ⟨v, hv⟩ := h.at0
  obtain ⟨A, c, -, hr⟩ := hv.R
  exact ⟨A, c, hr⟩
theorem RefF.lt {W : World} {F : Nat → Prop} {g : Nat} {next : Int} {l : List (Int × GO)} (h : RefF W F g next l) : g < W.heap.size := by
  obtain ⟨h0, v, sl, h1, -⟩ := h
  exact blk_lt h1
theorem objC_shape : ∀ {l m : List (Int × GO)} {sl : List Value}, shape l = shape m → objC l sl = objC m sl
  | [], [], _, _ => rfl
  | [], y :: m, _, h => by simp [shape] at h
  | x :: l, [], _, h => by simp [shape] at h
  | x :: l, y :: m, [], h => rfl
  | x :: l, y :: m, u :: sl, h => by
    simp only [shape, List.map_cons, List.cons.injEq, shp, Prod.mk.injEq] at h
    obtain ⟨⟨h1, h2, h3, h4⟩, h5⟩ := h
    simp only [objC]
    rw [h1, h2, h4, objC_shape h5]
theorem shape_at {l m : List (Int × GO)} (h : shape l = shape m) {j : Nat} {x : Int × GO} (hx : l[j]? = some x) : ∃ y, m[j]? = some y ∧ shp y = shp x := by
  have h1 : (shape l)[j]? = some (shp x) := by unfold shape; rw [List.getElem?_map, hx]; rfl
  rw [h] at h1
  unfold shape at h1
  rw [List.getElem?_map] at h1
  obtain ⟨y, hy, e⟩ := Option.map_eq_some_iff.1 h1
  exact ⟨y, hy, e⟩
theorem shape_len {l m : List (Int × GO)} (h : shape l = shape m) : l.length = m.length := by
  have := congrArg List.length h
  simpa [shape] using this
theorem RefF.shape {W : World} {F : Nat → Prop} {g : Nat} {next : Int} {l m : List (Int × GO)} (h : RefF W F g next l) (e : shape l = shape m) : RefF W F g next m := by
  obtain ⟨h0, v, sl, h1, h2, h3, h4, h5⟩ := h
  have hl := shape_len e
  refine ⟨h0, v, sl, h1, h2.trans hl, by rw [← hl, ← objC_shape e]; exact h3, h4, fun j y u hy hu => ?_⟩
  obtain ⟨x, hx, e2⟩ := shape_at e.symm hy
  simp only [shp, Prod.mk.injEq] at e2
  rw [← e2.2.2.1]
  exact h5 j x u hx hu
theorem RefF.at {W : World} {F : Nat → Prop} {g : Nat} {next : Int} {l : List (Int × GO)} (h : RefF W F g next l) {j : Nat} {x : Int × GO} (hx : l[j]? = some x) :
    ∃ b c Ax cx, W.cell? ⟨g, 0, none⟩ = some (.int .i64 next) ∧ W.cell? ⟨g, 1, none⟩ = some (.slice (some ⟨b, 0, none⟩) l.length c) ∧ F b ∧ b < W.heap.size ∧ l.length ≤ c ∧ W.cell? ⟨b, j * 4, none⟩ = some (.int .i64 x.1) ∧ W.cell? ⟨b, j * 4 + 1, none⟩ = some (.int .i64 x.2.kind) ∧ W.cell? ⟨b, j * 4 + 2, none⟩ = some (.slice Ax x.2.links.length cx) ∧ W.cell? ⟨b, j * 4 + 3, none⟩ = some (.int .i64 x.2.held) ∧
      x.2.links.length ≤ cx ∧ LinksR W Ax x.2.links ∧ ∀ m, W.frozen? ⟨b, m, none⟩ = false := by
  obtain ⟨h0, v, sl, h1, h2, h3, h4, h5⟩ := h
  have hj := (List.getElem?_eq_some_iff.1 hx).1
  have h3' := h3
  rcases h3'.2 with ⟨h6, h7⟩ | ⟨b, c, cur, h6, -, h7, h8, -⟩
  · omega
  subst h6
  obtain ⟨u, hu⟩ : ∃ u, sl[j]? = some u := ⟨_, List.getElem?_eq_getElem (by omega)⟩
  obtain ⟨h9, -⟩ := h5 j x u hx hu
  obtain ⟨Ax, cx, rfl⟩ := own_sl4 h9
  obtain ⟨k0, k1, k2, k3⟩ := objC_get hx hu
  have hc : ∀ m z, (objC l sl)[m]? = some z → W.cell? ⟨b, m, none⟩ = some z := fun m z hz => by
    have := h3.cells (g := b) rfl m z hz
    rwa [Addr.add_lit, Nat.zero_add] at this
  exact ⟨b, c, Ax, cx, (blk_cell h1 0).trans rfl, (blk_cell h1 1).trans rfl, h4 b rfl, blk_lt h7, h8, hc _ _ k0, hc _ _ k1, hc _ _ k2, hc _ _ k3, row_cap h9, links_own h9 rfl, fun m => h3.frozenAt m⟩
theorem RefF.c0 {W : World} {F : Nat → Prop} {g : Nat} {next : Int} {l : List (Int × GO)} (h : RefF W F g next l) : W.cell? ⟨g, 0, none⟩ = some (.int .i64 next) := by
  obtain ⟨h0, v, sl, h1, -⟩ := h
  exact (blk_cell h1 0).trans rfl
theorem objC_set2 : ∀ {l : List (Int × GO)} {sl : List Value} {i : Nat} {x : Int × GO} (ls : List Lk) (u : Value), l[i]? = some x → sl.length = l.length → (objC l sl).set (i * 4 + 2) u = objC (l.set i (x.1, { x.2 with links := ls })) (sl.set i u)
  | [], _, i, x, ls, u, hx, _ => by simp at hx
  | a :: l, [], i, x, ls, u, _, hl => by simp at hl
  | a :: l, b :: sl, 0, x, ls, u, hx, _ => by cases hx; rfl
  | a :: l, b :: sl, i + 1, x, ls, u, hx, hl => by
    have ih := objC_set2 (l := l) (sl := sl) (i := i) (x := x) ls u (by simpa using hx) (by simpa using hl)
    have e : (i + 1) * 4 + 2 = i * 4 + 2 + 1 + 1 + 1 + 1 := by omega
    rw [e]
    simp only [objC, List.set_cons_succ]
    rw [ih]
theorem objC_set3 : ∀ {l : List (Int × GO)} {sl : List Value} {i : Nat} {x : Int × GO} (h : Int), l[i]? = some x → sl.length = l.length → (objC l sl).set (i * 4 + 3) (.int .i64 h) = objC (l.set i (x.1, { x.2 with held := h })) sl
  | [], _, i, x, h, hx, _ => by simp at hx
  | a :: l, [], i, x, h, _, hl => by simp at hl
  | a :: l, b :: sl, 0, x, h, hx, _ => by cases hx; rfl
  | a :: l, b :: sl, i + 1, x, h, hx, hl => by
    have ih := objC_set3 (l := l) (sl := sl) (i := i) (x := x) h (by simpa using hx) (by simpa using hl)
    have e : (i + 1) * 4 + 3 = i * 4 + 3 + 1 + 1 + 1 + 1 := by omega
    rw [e]
    simp only [objC, List.set_cons_succ]
    rw [ih]
theorem RefF.links {w w' : World} {F : Nat → Prop} {g : Nat} {next : Int} {l : List (Int × GO)} (h : RefF w F g next l) (hb : Below w.heap.size w w') {i : Nat} {x : Int × GO} (hx : l[i]? = some x) {u : Value} {ls : List Lk} (hu : w'.ownsRow w.heap.size 42 3 u ls.length (cells3 ls)) {b c : Nat} (hA : w.cell? ⟨g, 1, none⟩ = some (.slice (some ⟨b, 0, none⟩) l.length c)) :
    RefF (w'.setCell ⟨b, i * 4 + 2, none⟩ u) (fun k => F k ∨ (w.heap.size ≤ k ∧ k < w'.heap.size)) g next (l.set i (x.1, { x.2 with links := ls })) := by
  obtain ⟨h0, v, sl, h1, h2, h3, h4, h5⟩ := h.below hb
  have hv : v = .slice (some ⟨b, 0, none⟩) l.length c := by
    have e1 := (blk_cell h1 1).trans rfl
    have e2 := (hb.cell (World.block_lt_of_cell? _ _ hA)).trans hA
    rw [e1] at e2
    exact Option.some.inj e2
  subst hv
  obtain ⟨r1, r2⟩ := h3.stored (i * 4 + 2) u
  have hlen := (List.getElem?_eq_some_iff.1 hx).1
  have keep : ∀ {n : Nat} {e : TypeId} {z : Value} {ys : List Value} {bs sz : Nat}, e ≠ 106 → w'.ownsRow bs e sz z n ys → (w'.setCell ⟨b, i * 4 + 2, none⟩ u).ownsRow bs e sz z n ys := fun {n e z ys bs sz} he hz =>
    own_move hz (fun k hk => r2.block k (hz.lt k hk).2 (fun e2 => rows_apart hz h3 he hk (by cases e2; rfl)))
  refine ⟨.inl h0, .slice (some ⟨b, 0, none⟩) l.length c, sl.set i u, ?_, by simp [h2], ?_, fun k hk => .inl (h4 k hk), fun j y z hy hz => ?_⟩
  · refine (r2.block g (blk_lt h1) (fun e => ?_)).trans h1
    exact own_apart h3 h1 (by decide) e.symm rfl
  · rw [List.length_set, ← objC_set2 ls u hx h2]
    exact r1
  · by_cases hj : i = j
    · subst hj
      rw [List.getElem?_set_self hlen] at hy
      rw [List.getElem?_set_self (by omega)] at hz
      cases hy
      cases hz
      exact ⟨(keep (by decide) hu).mono (Nat.zero_le _), fun k hk => .inr (hu.lt k hk)⟩
    · rw [List.getElem?_set_ne hj] at hy hz
      exact ⟨keep (by decide) (h5 j y z hy hz).1, fun k hk => .inl ((h5 j y z hy hz).2 k hk)⟩
theorem RefF.held {w : World} {F : Nat → Prop} {g : Nat} {next : Int} {l : List (Int × GO)} (h : RefF w F g next l) {i : Nat} {x : Int × GO} (hx : l[i]? = some x) (n : Int) {b c : Nat} (hA : w.cell? ⟨g, 1, none⟩ = some (.slice (some ⟨b, 0, none⟩) l.length c)) :
    RefF (w.setCell ⟨b, i * 4 + 3, none⟩ (.int .i64 n)) F g next (l.set i (x.1, { x.2 with held := n })) := by
  obtain ⟨h0, v, sl, h1, h2, h3, h4, h5⟩ := h
  have hv : v = .slice (some ⟨b, 0, none⟩) l.length c := by
    have e1 := (blk_cell h1 1).trans rfl
    rw [e1] at hA
    exact Option.some.inj hA
  subst hv
  obtain ⟨r1, r2⟩ := h3.stored (i * 4 + 3) (.int .i64 n)
  have hlen := (List.getElem?_eq_some_iff.1 hx).1
  have keep : ∀ {n' : Nat} {e : TypeId} {z : Value} {ys : List Value} {bs sz : Nat}, e ≠ 106 → w.ownsRow bs e sz z n' ys → (w.setCell ⟨b, i * 4 + 3, none⟩ (.int .i64 n)).ownsRow bs e sz z n' ys := fun {n' e z ys bs sz} he hz =>
    own_move hz (fun k hk => r2.block k (hz.lt k hk).2 (fun e2 => rows_apart hz h3 he hk (by cases e2; rfl)))
  refine ⟨h0, .slice (some ⟨b, 0, none⟩) l.length c, sl, ?_, by simp [h2], ?_, h4, fun j y z hy hz => ?_⟩
  · refine (r2.block g (blk_lt h1) (fun e => ?_)).trans h1
    exact own_apart h3 h1 (by decide) e.symm rfl
  · rw [List.length_set, ← objC_set3 n hx h2]
    exact r1
  · by_cases hj : i = j
    · subst hj
      rw [List.getElem?_set_self hlen] at hy
      cases hy
      exact ⟨keep (by decide) (h5 i x z hx hz).1, (h5 i x z hx hz).2⟩
    · rw [List.getElem?_set_ne hj] at hy
      exact ⟨keep (by decide) (h5 j y z hy hz).1, (h5 j y z hy hz).2⟩
def MineR (w0 w : World) (g : Nat) (F : Nat → Prop) (next : Int) (l : List (Int × GO)) : Prop := RefF w F g next l ∧ (∀ k, F k → w0.heap.size ≤ k ∧ k < w.heap.size) ∧ Below w0.heap.size w0 w
theorem MineR.step {w0 w w' : World} {g : Nat} {F : Nat → Prop} {next : Int} {l : List (Int × GO)} (h : MineR w0 w g F next l) (hb : Below w.heap.size w w') : MineR w0 w' g F next l :=
  ⟨h.1.below hb, fun k hk => ⟨(h.2.1 k hk).1, Nat.lt_of_lt_of_le (h.2.1 k hk).2 hb.size⟩, h.2.2.trans (hb.mono h.2.2.size)⟩
theorem MineR.same {w0 w w' : World} {g : Nat} {F S : Nat → Prop} {next : Int} {l : List (Int × GO)} (h : MineR w0 w g F next l) (hs : SameOn S w w') (hF : ∀ k, F k → S k) (h0 : ∀ k, k < w0.heap.size → S k) : MineR w0 w' g F next l :=
  ⟨h.1.same hs hF, fun k hk => ⟨(h.2.1 k hk).1, Nat.lt_of_lt_of_le (h.2.1 k hk).2 hs.size⟩, h.2.2.trans (hs.below h0 h.2.2.size)⟩
def TurnR (w0 w : World) (g : Nat) (F : Nat → Prop) (next : Int) (l : List (Int × GO)) (w' : World) : Prop :=
  ∃ F', MineR w0 w' g F' next l ∧ (∀ k, F k → F' k) ∧ (∀ k, F' k → F k ∨ w.heap.size ≤ k) ∧ SameOn (fun k => ¬ F k) w w'
theorem turnR_of {w0 w w' : World} {g : Nat} {F : Nat → Prop} {next next' : Int} {l l' : List (Int × GO)} (h : MineR w0 w g F next l) (hs : SameOn (fun k => ¬ F k) w w') (hR : RefF w' (fun k => F k ∨ (w.heap.size ≤ k ∧ k < w'.heap.size)) g next' l') : TurnR w0 w g F next' l' w' := by
  have hz := h.2.2.size
  refine ⟨_, ⟨hR, fun k hk => ?_, h.2.2.trans (hs.below (fun k hk hf => by have := (h.2.1 k hf).1; omega) hz)⟩, fun k hk => .inl hk, fun k hk => hk.imp_right (fun a => a.1), hs⟩
  rcases hk with hk | hk
  · exact ⟨(h.2.1 k hk).1, Nat.lt_of_lt_of_le (h.2.1 k hk).2 hs.size⟩
  · exact ⟨by omega, hk.2⟩
theorem turnR_same {w0 w w' : World} {g : Nat} {F : Nat → Prop} {next : Int} {l : List (Int × GO)} (h : MineR w0 w g F next l) (hb : Below w.heap.size w w') : TurnR w0 w g F next l w' :=
  ⟨F, h.step hb, fun _ hk => hk, fun _ hk => .inl hk, SameOn.of_below hb⟩
theorem TurnR.shape {w0 w w' : World} {g : Nat} {F : Nat → Prop} {next : Int} {l m : List (Int × GO)} (h : TurnR w0 w g F next l w') (e : shape l = shape m) : TurnR w0 w g F next m w' := by
  obtain ⟨F', h1, h2⟩ := h
  exact ⟨F', ⟨h1.1.shape e, h1.2⟩, h2⟩
theorem TurnR.trans {w0 w w' w'' : World} {g : Nat} {F : Nat → Prop} {next next' : Int} {l l' : List (Int × GO)} (h : TurnR w0 w g F next l w') (hn : ∀ F', MineR w0 w' g F' next l → TurnR w0 w' g F' next' l' w'') : TurnR w0 w g F next' l' w'' := by
  obtain ⟨F1, h1, h2, h3, h4⟩ := h
  obtain ⟨F2, g1, g2, g3, g4⟩ := hn F1 h1
  refine ⟨F2, g1, fun k hk => g2 k (h2 k hk), fun k hk => ?_, ⟨Nat.le_trans h4.size g4.size, fun k hk hl => ?_, g4.os.trans h4.os, g4.tape.trans h4.tape, g4.output.trans h4.output⟩⟩
  · rcases g3 k hk with h | h
    · exact h3 k h
    · exact .inr (Nat.le_trans h4.size h)
  · refine (g4.same k (fun hf => ?_) (Nat.lt_of_lt_of_le hl h4.size)).trans (h4.same k hk hl)
    rcases h3 k hf with h | h
    · exact hk h
    · omega
end
end Go.Proofs.YthifdofdoeaemaaGreatDoor.Wk
end
section
namespace Go.Proofs.YthifdofdoeaemaaGreatDoor.Wk
open Go.RowKit Go.Proofs.YthifdofdoeaemaaGreatDoorW.PrintWords Go.Proofs.YthifdofdoeaemaaGreatDoorW.PrintLast Go.Proofs.YthifdofdoeaemaaGreatDoorW.PrintMore
attribute [local go_sem] max2_int min2_int max_two min_two max_three min_three max_four min_four
set_option linter.unusedVariables false
set_option linter.unusedSimpArgs false
section
open Go.RowKit Go.Lib Go.Maps Go.Proofs.YthifdofdoeaemaaGreatDoorQ
attribute [local go_sem] Oper.semAt_some
theorem objC_erase : ∀ {l : List (Int × GO)} {sl : List Value} {i : Nat}, sl.length = l.length → i < l.length → objC (l.eraseIdx i) (sl.eraseIdx i) = (objC l sl).take (i * 4) ++ (objC l sl).drop ((i + 1) * 4)
  | [], _, i, _, hi => by simp at hi
  | a :: l, [], i, h, _ => by simp at h
  | a :: l, b :: sl, 0, h, _ => by simp [objC]
  | a :: l, b :: sl, i + 1, h, hi => by
    have ih := objC_erase (l := l) (sl := sl) (i := i) (by simpa using h) (by simpa using hi)
    rw [List.eraseIdx_cons_succ, List.eraseIdx_cons_succ]
    rw [show (i + 1) * 4 = i * 4 + 1 + 1 + 1 + 1 by omega, show (i + 1 + 1) * 4 = (i + 1) * 4 + 1 + 1 + 1 + 1 by omega]
    simp only [objC, List.take_succ_cons, List.drop_succ_cons, List.cons_append]
    rw [ih]
theorem objC_length : ∀ {l : List (Int × GO)} {sl : List Value}, sl.length = l.length → (objC l sl).length = l.length * 4
  | [], [], _ => rfl
  | [], b :: sl, h => by simp at h
  | a :: l, [], h => by simp at h
  | a :: l, b :: sl, h => by
    have ih := objC_length (l := l) (sl := sl) (by simpa using h)
    simp only [objC, List.length_cons, ih]
    omega
theorem delO_idx {l : List (Int × GO)} (ha : Asc l) {i : Nat} {x : Int × GO} (hx : l[i]? = some x) : delO x.1 l = l.eraseIdx i := by
  obtain ⟨hi, he⟩ := List.getElem?_eq_some_iff.1 hx
  have hp := List.pairwise_iff_getElem.1 ha
  rw [List.eraseIdx_eq_take_drop_succ]
  unfold delO
  conv => lhs; rw [← List.take_append_drop i l, List.filter_append, List.drop_eq_getElem_cons hi, List.filter_cons]
  rw [he]
  simp only [decide_true, Bool.not_true, if_false, Bool.false_eq_true]
  congr 1
  · refine List.filter_eq_self.2 (fun y hy => ?_)
    obtain ⟨n, hn⟩ := List.mem_iff_getElem?.1 hy
    rw [List.getElem?_take] at hn
    split at hn
    · rename_i hni
      obtain ⟨h1, h2⟩ := List.getElem?_eq_some_iff.1 hn
      have := hp n i h1 hi hni
      rw [h2, he] at this
      have : y.1 ≠ x.1 := by omega
      simpa using this
    · cases hn
  · refine List.filter_eq_self.2 (fun y hy => ?_)
    obtain ⟨n, hn⟩ := List.mem_iff_getElem?.1 hy
    rw [List.getElem?_drop] at hn
    obtain ⟨h1, h2⟩ := List.getElem?_eq_some_iff.1 hn
    have := hp i (i + 1 + n) hi h1 (by omega)
    rw [h2, he] at this
    have : y.1 ≠ x.1 := by omega
    simpa using this
theorem RefF.grown_int {W W' : World} {F : Nat → Prop} {g : Nat} {next : Int} {l : List (Int × GO)} (h : RefF W F g next l) {b n : Nat} {v : Value} {xs : List Value} (hr : W.ownsRow b 3 1 v n xs) (hg : W.grownBy W' v.ownBlock) : RefF W' F g next l := by
  obtain ⟨h0, v0, sl, h1, h2, h3, h4, h5⟩ := h
  have ap : ∀ {e : TypeId} {z : Value} {m sz bs : Nat} {ys : List Value}, e ≠ 3 → W.ownsRow bs e sz z m ys → W'.ownsRow bs e sz z m ys := fun {e z m sz bs ys} he hz => own_move hz (fun k hk => hg.block k (hz.lt k hk).2 (fun e2 => rows_apart hz hr he hk e2.symm))
  refine ⟨h0, v0, sl, (hg.block g (blk_lt h1) (fun e2 => ?_)).trans h1, h2, ap (by decide) h3, h4, fun j x u hx hu => ⟨ap (by decide) (h5 j x u hx hu).1, (h5 j x u hx hu).2⟩⟩
  exact own_apart hr h1 (by decide) e2.symm rfl
theorem RefF.erase {w : World} {F : Nat → Prop} {g : Nat} {next : Int} {l : List (Int × GO)} (h : RefF w F g next l) (hl : l.length ≤ bound) {i : Nat} (hi : i < l.length) :
    ∃ b c, w.cell? ⟨g, 1, none⟩ = some (.slice (some ⟨b, 0, none⟩) l.length c) ∧ l.length ≤ c ∧ ∀ {w1 : World} (hb1 : Below w.heap.size w w1) {v0 : Value} (h0 : w1.ownsRow w.heap.size 106 4 v0 0 []),
      ∃ A8 c8 w8, (Builtin.append_ #[102, 102] 102 #[v0, .slice (some ⟨b, 0, none⟩) i c]).run Tryz.prog w1 = .ok (.slice A8 i c8) w8 ∧ Below w.heap.size w w8 ∧
      ∃ A16 c16 w16, (Builtin.append_ #[102, 102] 102 #[.slice A8 i c8, .slice (if c = i + 1 then some ⟨b, 0, none⟩ else some ⟨b, (i + 1) * 4, none⟩) (l.length - (i + 1)) (c - (i + 1))]).run Tryz.prog w8 = .ok (.slice A16 (i + (l.length - (i + 1))) c16) w16 ∧ Below w.heap.size w w16 ∧
        RefF (w16.setCell ⟨g, 1, none⟩ (.slice A16 (i + (l.length - (i + 1))) c16)) (fun k => F k ∨ (w.heap.size ≤ k ∧ k < w16.heap.size)) g next (l.eraseIdx i) ∧ w16.frozen? ⟨g, 1, none⟩ = false ∧ w16.cell? ⟨g, 1, none⟩ = some (.slice (some ⟨b, 0, none⟩) l.length c) := by
  obtain ⟨i0, hi0, hz0, hz1, hz2⟩ := info_parts (P := Tryz.prog) (e := 106) (z := .agg #[.int .i64 0, .int .i64 0, .slice none 0 0, .int .i64 0]) (size := 4) (bytes := 48) (by kernel_rfl)
  obtain ⟨h0, v, sl, h1, h2, h3, h4, h5⟩ := h
  have h3' := h3
  rcases h3'.2 with ⟨-, h7⟩ | ⟨b, c, cur, h6, -, h7, h8, -⟩
  · omega
  subst h6
  refine ⟨b, c, (blk_cell h1 1).trans rfl, h8, fun {w1} hb1 {v0} hv0 => ?_⟩
  have hoc := objC_length h2
  have hcell : ∀ {W : World}, Below w.heap.size w W → ∀ j u, (objC l sl)[j]? = some u → W.cell? ⟨b, j, none⟩ = some u := fun {W} hb j u hu => by
    have := h3.cells (g := b) rfl j u hu
    rw [Addr.add_lit, Nat.zero_add] at this
    exact (hb.cell (p := ⟨b, j, none⟩) (blk_lt h7)).trans this
  have hone : ∀ u ∈ objC l sl, u.oneCell' = true := fun u hu => by
    obtain ⟨j, hj⟩ := List.mem_iff_getElem?.1 hu
    have hjl := (List.getElem?_eq_some_iff.1 hj).1
    obtain ⟨q, hq⟩ : ∃ q, q = j / 4 := ⟨_, rfl⟩
    have hql : q < l.length := by omega
    obtain ⟨x, hx⟩ : ∃ x, l[q]? = some x := ⟨_, List.getElem?_eq_getElem hql⟩
    obtain ⟨z, hz⟩ : ∃ z, sl[q]? = some z := ⟨_, List.getElem?_eq_getElem (by omega)⟩
    obtain ⟨k0, k1, k2, k3⟩ := objC_get hx hz
    obtain ⟨Az, cz, rfl⟩ := own_sl4 (h5 q x z hx hz).1
    have hm : j = q * 4 ∨ j = q * 4 + 1 ∨ j = q * 4 + 2 ∨ j = q * 4 + 3 := by omega
    rcases hm with rfl | rfl | rfl | rfl
    · rw [k0] at hj; cases hj; rfl
    · rw [k1] at hj; cases hj; rfl
    · rw [k2] at hj; cases hj; rfl
    · rw [k3] at hj; cases hj; rfl
  obtain ⟨v8, w8, hr8, ho8, hg8, -, -⟩ := run_append_own_at (P := Tryz.prog) w1 w.heap.size 102 102 106 i0 (.agg #[.int .i64 0, .int .i64 0, .slice none 0 0, .int .i64 0]) 4 48 Tryz.underlying102 hi0 hz0 hz1 hz2 rfl (by decide) v0 0 _ hv0 ⟨b, 0, none⟩ i c ((objC l sl).take (i * 4)) (by rw [List.length_take]; omega) (fun j u hu => by
    rw [Addr.add_lit, Nat.zero_add]
    refine hcell hb1 j u ?_
    rw [List.getElem?_take] at hu
    split at hu
    · exact hu
    · cases hu) (fun u hu => hone u (List.mem_of_mem_take hu)) (by unfold bound at hl; unfold maxLen; omega) (by unfold bound at hl; omega) hb1.size
  rw [Nat.zero_add, List.nil_append] at ho8
  obtain ⟨A8, c8, rfl⟩ := own_sl4 ho8
  have hb8 : Below w.heap.size w w8 := hb1.grown hg8 hb1.size (fun k hk => (hv0.lt k hk).1)
  refine ⟨A8, c8, w8, hr8, hb8, ?_⟩
  obtain ⟨a9, ha9, hA9⟩ : ∃ a9 : Addr, (if c = i + 1 then some (⟨b, 0, none⟩ : Addr) else some ⟨b, (i + 1) * 4, none⟩) = some a9 ∧ (c = i + 1 ∨ a9 = ⟨b, (i + 1) * 4, none⟩) := by
    by_cases hc : c = i + 1
    · exact ⟨_, if_pos hc, .inl hc⟩
    · exact ⟨_, if_neg hc, .inr rfl⟩
  rw [ha9]
  obtain ⟨v16, w16, hr16, ho16, hg16, -, -⟩ := run_append_own_at (P := Tryz.prog) w8 w.heap.size 102 102 106 i0 (.agg #[.int .i64 0, .int .i64 0, .slice none 0 0, .int .i64 0]) 4 48 Tryz.underlying102 hi0 hz0 hz1 hz2 rfl (by decide) (.slice A8 i c8) i _ ho8 a9 (l.length - (i + 1)) (c - (i + 1)) ((objC l sl).drop ((i + 1) * 4)) (by rw [List.length_drop]; omega) (fun j u hu => by
    rw [List.getElem?_drop] at hu
    rcases hA9 with hc | rfl
    · have := (List.getElem?_eq_some_iff.1 hu).1
      omega
    · rw [Addr.add_lit]
      exact hcell hb8 _ u hu) (fun u hu => hone u (List.mem_of_mem_drop hu)) (by unfold bound at hl; unfold maxLen; omega) (by unfold bound at hl; omega) hb8.size
  obtain ⟨A16, c16, rfl⟩ := own_sl4 ho16
  have hb16 : Below w.heap.size w w16 := hb8.grown hg16 hb8.size (fun k hk => (ho8.lt k hk).1)
  have hg16' := (hb16.block g (blk_lt h1)).trans h1
  have hel : (l.eraseIdx i).length = i + (l.length - (i + 1)) := by rw [List.length_eraseIdx, if_pos hi]; omega
  refine ⟨A16, c16, w16, hr16, hb16, ⟨.inl h0, .slice A16 (i + (l.length - (i + 1))) c16, sl.eraseIdx i, (blk_set hg16' 1 _).trans rfl, ?_, ?_, fun k hk => .inr (ho16.lt k hk), fun j x u hx hu => ?_⟩, blk_frozen hg16' 1, (blk_cell hg16' 1).trans rfl⟩
  · rw [List.length_eraseIdx, List.length_eraseIdx, if_pos hi, if_pos (by omega), h2]
  · rw [hel, objC_erase h2 hi]
    exact (own_move ho16 (fun k hk => Below.heap_setCell _ _ _ _ (own_apart ho16 hg16' (by decide) hk))).mono (Nat.zero_le _)
  · have key : ∀ q (y : Int × GO) (z : Value), l[q]? = some y → sl[q]? = some z → (w16.setCell ⟨g, 1, none⟩ (.slice A16 (i + (l.length - (i + 1))) c16)).ownsRow 0 42 3 z y.2.links.length (cells3 y.2.links) ∧ ∀ k, z.ownBlock = some k → F k ∨ (w.heap.size ≤ k ∧ k < w16.heap.size) := fun q y z hy hz => by
      obtain ⟨h9, h10⟩ := h5 q y z hy hz
      have h11 := row_same h9 (SameOn.of_below (S := fun _ => True) hb16) (fun _ _ => trivial)
      exact ⟨own_move h11 (fun k hk => Below.heap_setCell _ _ _ _ (own_apart h11 hg16' (by decide) hk)), fun k hk => .inl (h10 k hk)⟩
    rw [List.getElem?_eraseIdx] at hx hu
    split at hx
    · rename_i hji
      rw [if_pos hji] at hu
      exact key j x u hx hu
    · rename_i hji
      rw [if_neg hji] at hu
      exact key (j + 1) x u hx hu
def Near (xs : List Int) (i k : Nat) : Prop := ∀ a b x y, a < b → b ≤ i → b ≠ k → xs[a]? = some x → xs[b]? = some y → x ≤ y
theorem near_start {xs : List Int} {i : Nat} (h : (xs.take i).Pairwise (fun x y => x ≤ y)) : Near xs i i := fun a b x y hab hbi hbk hx hy => by
  have hp := List.pairwise_iff_getElem.1 h
  obtain ⟨h1, rfl⟩ := List.getElem?_eq_some_iff.1 hx
  obtain ⟨h2, rfl⟩ := List.getElem?_eq_some_iff.1 hy
  have := hp a b (by rw [List.length_take]; omega) (by rw [List.length_take]; omega) hab
  simpa using this
theorem near_done {xs : List Int} {i k : Nat} (h : Near xs i k) (hk : k = 0 ∨ ∀ x y, xs[k - 1]? = some x → xs[k]? = some y → x ≤ y) : (xs.take (i + 1)).Pairwise (fun x y => x ≤ y) := by
  rw [List.pairwise_iff_getElem]
  intro a b ha hb hab
  rw [List.length_take] at ha hb
  rw [List.getElem_take, List.getElem_take]
  by_cases hbk : b = k
  · subst hbk
    rcases hk with h0 | h0
    · omega
    have hb1 : b - 1 < xs.length := by omega
    have h2 := h0 _ _ (List.getElem?_eq_getElem hb1) (List.getElem?_eq_getElem (by omega : b < xs.length))
    by_cases hab2 : a = b - 1
    · subst hab2
      exact h2
    · have := h a (b - 1) _ _ (by omega) (by omega) (by omega) (List.getElem?_eq_getElem (by omega : a < xs.length)) (List.getElem?_eq_getElem hb1)
      omega
  · exact h a b _ _ hab (by omega) hbk (List.getElem?_eq_getElem (by omega)) (List.getElem?_eq_getElem (by omega))
theorem near_swap {xs : List Int} {i k : Nat} (h : Near xs i k) (hk : 0 < k) (hki : k ≤ i) (hi : i < xs.length) {x y : Int} (hx : xs[k - 1]? = some x) (hy : xs[k]? = some y) (hxy : y < x) : Near ((xs.set (k - 1) y).set k x) i (k - 1) := fun a b p q hab hbi hbk hp hq => by
  have hg : ∀ n, ((xs.set (k - 1) y).set k x)[n]? = if n = k then some x else if n = k - 1 then some y else xs[n]? := fun n => by
    rw [List.getElem?_set, List.getElem?_set]
    by_cases h1 : n = k
    · subst h1; simp; omega
    · rw [if_neg (fun e => h1 e.symm), if_neg h1]
      by_cases h2 : n = k - 1
      · subst h2
        rw [if_pos rfl, if_pos rfl, if_pos (by omega)]
      · rw [if_neg (fun e => h2 e.symm), if_neg h2]
  rw [hg] at hp hq
  by_cases b1 : b = k
  · subst b1
    rw [if_pos rfl] at hq
    cases hq
    rw [if_neg (by omega)] at hp
    by_cases a1 : a = b - 1
    · rw [if_pos a1] at hp
      cases hp
      omega
    · rw [if_neg a1] at hp
      exact h a (b - 1) _ _ (by omega) (by omega) (by omega) hp hx
  · rw [if_neg b1, if_neg hbk] at hq
    by_cases a1 : a = k
    · rw [if_pos a1] at hp
      cases hp
      exact h (k - 1) b _ _ (by omega) hbi b1 hx hq
    · rw [if_neg a1] at hp
      by_cases a2 : a = k - 1
      · rw [if_pos a2] at hp
        cases hp
        exact h k b _ _ (by omega) hbi b1 hy hq
      · rw [if_neg a2] at hp
        exact h a b _ _ hab hbi b1 hp hq
theorem swap_perm {xs : List Int} {k : Nat} (hk : 0 < k) {x y : Int} (hx : xs[k - 1]? = some x) (hy : xs[k]? = some y) : ((xs.set (k - 1) y).set k x).Perm xs := by
  obtain ⟨h1, rfl⟩ := List.getElem?_eq_some_iff.1 hx
  obtain ⟨h2, rfl⟩ := List.getElem?_eq_some_iff.1 hy
  have e : xs = xs.take (k - 1) ++ xs[k - 1] :: xs[k] :: xs.drop (k + 1) := by
    conv => lhs; rw [← List.take_append_drop (k - 1) xs, List.drop_eq_getElem_cons h1]
    congr 2
    have : k - 1 + 1 = k := by omega
    rw [this, List.drop_eq_getElem_cons h2]
  have hl : (xs.take (k - 1)).length = k - 1 := by rw [List.length_take]; omega
  generalize xs[k - 1] = x at e ⊢
  generalize xs[k] = y at e ⊢
  generalize xs.take (k - 1) = p at e hl
  generalize xs.drop (k + 1) = q at e
  subst e
  rw [List.set_append_right _ _ (by omega), show k - 1 - p.length = 0 by omega, List.set_cons_zero, List.set_append_right _ _ (by omega), show k - p.length = 1 by omega, List.set_cons_succ, List.set_cons_zero]
  exact List.Perm.append_left _ (List.Perm.swap _ _ _)
end
end Go.Proofs.YthifdofdoeaemaaGreatDoor.Wk
end
section
namespace Go.Proofs.YthifdofdoeaemaaGreatDoor.Wk
open Go.RowKit Go.Proofs.YthifdofdoeaemaaGreatDoorW.PrintWords Go.Proofs.YthifdofdoeaemaaGreatDoorW.PrintLast Go.Proofs.YthifdofdoeaemaaGreatDoorW.PrintMore
attribute [local go_sem] max2_int min2_int max_two min_two max_three min_three max_four min_four
set_option linter.unusedVariables false
set_option linter.unusedSimpArgs false
section
open Go.RowKit Go.Lib
def Away (l : List (Int × GO)) (x : Int × GO) : Prop := x.1 ≠ 1 ∧ x.2.held = 0 ∧ sumO (cntO x.1) l = 0
inductive Rem (l : List (Int × GO)) : List Int → List (Int × GO) → Prop
  | nil : Rem l [] l
  | snoc {m : List (Int × GO)} {out : List Int} {x : Int × GO} (h : Rem l out m) (hx : x ∈ m) (ha : Away m x) : Rem l (out ++ [x.1]) (delO x.1 m)
theorem rem_mem {l m : List (Int × GO)} {out : List Int} (h : Rem l out m) : ∀ y, y ∈ m ↔ y ∈ l ∧ y.1 ∉ out := by
  induction h with
  | nil => intro y; simp
  | snoc h hx ha ih =>
    intro y
    rw [mem_delO, ih y, List.mem_append, List.mem_singleton]
    constructor
    · rintro ⟨⟨h1, h2⟩, h3⟩
      exact ⟨h1, fun h4 => h4.elim h2 h3⟩
    · rintro ⟨h1, h2⟩
      exact ⟨⟨h1, fun h3 => h2 (.inl h3)⟩, fun h3 => h2 (.inr h3)⟩
theorem rem_asc {l m : List (Int × GO)} {out : List Int} (h : Rem l out m) (ha : Asc l) : Asc m := by
  induction h with
  | nil => exact ha
  | snoc h hx _ ih => exact asc_del ih _
theorem rem_nodup {l m : List (Int × GO)} {out : List Int} (h : Rem l out m) : out.Nodup := by
  induction h with
  | nil => exact List.nodup_nil
  | snoc h hx ha ih =>
    rw [List.nodup_append]
    refine ⟨ih, by simp, fun a h1 b h2 e => ?_⟩
    rw [List.mem_singleton] at h2
    have := ((rem_mem h _).1 hx).2
    rw [← h2, ← e] at this
    exact this h1
theorem rem_len {l m : List (Int × GO)} {out : List Int} (h : Rem l out m) (ha : Asc l) : m.length + out.length = l.length := by
  induction h with
  | nil => simp
  | snoc h hx _ ih =>
    have := len_del (rem_asc h ha) hx
    rw [List.length_append, List.length_singleton]
    omega
theorem rem_sub {G G2 : GS} {i : Int} {r : List Int} (h : Ok G) (hs : Step i G r G2) (hc : Clean i G G2) (hr : Rest G2) {out : List Int} {m : List (Int × GO)} (hR : Rem G.objs out m) : ∀ y ∈ out, y ∈ r := by
  induction hR with
  | nil => simp
  | @snoc m out x hm hx ha ih =>
    intro y hy
    rcases List.mem_append.1 hy with hy | hy
    · exact ih y hy
    rw [List.mem_singleton] at hy
    subst hy
    obtain ⟨hxl, hxo⟩ := (rem_mem hm x).1 hx
    rcases hs.kept x.1 x.2 hxl with hk | ⟨q, hq⟩
    · exact hk
    exfalso
    obtain ⟨p, hp, -, e2, -⟩ := hs.back _ _ hq
    obtain rfl := asc_uniq h.asc hxl hp
    have h0 := hr _ hq
    have hh := ha.2.1
    simp only at h0
    rcases h0 with h0 | h0 | h0
    · exact ha.1 h0
    · obtain ⟨z, hz, k, hk, e, -⟩ := leader hs.ok hq h0
      obtain ⟨p', hp', -⟩ := hs.back z.1 z.2 hz
      have hl : z.2.links = p'.links := by
        by_cases hi : z.1 = i
        · have hz' : (i, z.2) ∈ G2.objs := by rw [← hi]; exact hz
          exact (hc _ hz').1 p' (by rw [← hi]; exact hp')
        · exact hs.same _ _ _ hz hp' hi
      rw [hl] at hk
      have hno : z.1 ∉ out := fun h1 => (hs.gone _ (ih _ h1)).2.2 _ hz
      have hzm : (z.1, p') ∈ m := (rem_mem hm _).2 ⟨hp', hno⟩
      have := sumO_zero ha.2.2 hzm
      exact cnt_zero this hk e
    · omega
theorem rem_lead {G G2 : GS} {i : Int} {r : List Int} (h : Ok G) (hs : Step i G r G2) (hc : Clean i G G2) {out : List Int} {m : List (Int × GO)} (hR : Rem G.objs out m) (hd : ∀ x ∈ m, ¬ Away m x) {x : Int × GO} (hx : x ∈ G.objs) (hr : x.1 ∈ r) (ho : x.1 ∉ out) :
    ∃ z ∈ G.objs, z.2.kind = 1 ∧ z.1 ∈ r ∧ z.1 ∉ out ∧ ∃ k ∈ z.2.links, k.2.1 = x.1 := by
  have hxm := (rem_mem hR x).2 ⟨hx, ho⟩
  obtain ⟨g1, ⟨p, hp, g2⟩, g3⟩ := hs.gone _ hr
  obtain rfl := asc_uniq h.asc hx hp
  have hn : sumO (cntO x.1) m ≠ 0 := fun e => hd x hxm ⟨g1, g2, e⟩
  obtain ⟨z, hz, hz0⟩ := sumO_pos (Nat.pos_of_ne_zero hn)
  obtain ⟨hzl, hzo⟩ := (rem_mem hR z).1 hz
  obtain ⟨k, hk, e⟩ : ∃ k ∈ z.2.links, k.2.1 = x.1 := by
    unfold cntO cntL at hz0
    obtain ⟨k, hk, e⟩ := List.countP_pos_iff.1 hz0
    exact ⟨k, hk, by simpa using e⟩
  refine ⟨z, hzl, ?_, ?_, hzo, k, hk, e⟩
  · rcases h.kind z hzl with h1 | ⟨-, h1⟩
    · exact h1
    · rw [h1] at hk; cases hk
  · rcases hs.kept z.1 z.2 hzl with h1 | ⟨q, hq⟩
    · exact h1
    exfalso
    have hl : q.links = z.2.links := by
      by_cases hi : z.1 = i
      · have hq' : (i, q) ∈ G2.objs := by rw [← hi]; exact hq
        exact (hc _ hq').1 z.2 (by rw [← hi]; exact hzl)
      · exact hs.same _ _ _ hq hzl hi
    have hlk := hs.ok.lk _ hq k (by rw [hl]; exact hk)
    have hx1 := (h.ids x hx).1
    rcases hlk.2 with ⟨h1, -⟩ | ⟨-, -, o, ho⟩
    · omega
    · rw [e] at ho
      exact g3 _ ho
theorem rem_group {G G2 : GS} {i : Int} {r : List Int} (h : Ok G) (hac : Acyc G) (hs : Step i G r G2) (hc : Clean i G G2) {out : List Int} {m : List (Int × GO)} (hR : Rem G.objs out m) (hd : ∀ x ∈ m, ¬ Away m x) :
    ∀ (n : Nat) (x : Int × GO), x ∈ G.objs → x.2.kind = 1 → x.1.toNat < n → x.1 ∈ r → x.1 ∈ out := by
  intro n
  induction n with
  | zero => intro x _ _ hn; omega
  | succ n ih =>
    intro x hx hk hn hr
    by_cases ho : x.1 ∈ out
    · exact ho
    exfalso
    obtain ⟨z, hz, hzk, hzr, hzo, k, hkz, e⟩ := rem_lead h hs hc hR hd hx hr ho
    have hx1 := (h.ids x hx).1
    have hz1 := (h.ids z hz).1
    rcases hac z hz k hkz with h1 | h1 | ⟨t, ht, h1⟩
    · omega
    · exact hzo (ih z hz hzk (by omega) hzr)
    · rw [e] at ht
      obtain rfl := asc_uniq h.asc hx ht
      omega
theorem sub_rem {G G2 : GS} {i : Int} {r : List Int} (h : Ok G) (hac : Acyc G) (hs : Step i G r G2) (hc : Clean i G G2) {out : List Int} {m : List (Int × GO)} (hR : Rem G.objs out m) (hd : ∀ x ∈ m, ¬ Away m x) : ∀ y ∈ r, y ∈ out := by
  intro y hy
  by_cases ho : y ∈ out
  · exact ho
  exfalso
  obtain ⟨-, ⟨p, hp, -⟩, -⟩ := hs.gone y hy
  obtain ⟨z, hz, hzk, hzr, hzo, -⟩ := rem_lead h hs hc hR hd hp hy ho
  exact hzo (rem_group h hac hs hc hR hd _ z hz hzk (Nat.lt_succ_self _) hzr)
theorem asc_ext : ∀ {a b : List Shp}, a.Pairwise (fun x y => x.1 < y.1) → b.Pairwise (fun x y => x.1 < y.1) → (∀ s, s ∈ a ↔ s ∈ b) → a = b
  | [], [], _, _, _ => rfl
  | [], y :: b, _, _, h => by have := (h y).2 (List.mem_cons_self ..); cases this
  | x :: a, [], _, _, h => by have := (h x).1 (List.mem_cons_self ..); cases this
  | x :: a, y :: b, ha, hb, h => by
    rw [List.pairwise_cons] at ha hb
    have e : x = y := by
      rcases List.mem_cons.1 ((h x).1 (List.mem_cons_self ..)) with h1 | h1
      · exact h1
      rcases List.mem_cons.1 ((h y).2 (List.mem_cons_self ..)) with h2 | h2
      · exact h2.symm
      have h3 := ha.1 y h2
      have h4 := hb.1 x h1
      omega
    subst e
    congr 1
    refine asc_ext ha.2 hb.2 (fun s => ⟨fun hs => ?_, fun hs => ?_⟩)
    · rcases List.mem_cons.1 ((h s).1 (List.mem_cons_of_mem _ hs)) with h1 | h1
      · subst h1
        have := ha.1 _ hs
        omega
      · exact h1
    · rcases List.mem_cons.1 ((h s).2 (List.mem_cons_of_mem _ hs)) with h1 | h1
      · subst h1
        have := hb.1 _ hs
        omega
      · exact h1
theorem shape_asc {l : List (Int × GO)} (h : Asc l) : (shape l).Pairwise (fun x y => x.1 < y.1) := by
  unfold shape
  rw [List.pairwise_map]
  exact h
theorem sortI_sorted (l : List Int) : (sortI l).Pairwise (fun x y => x ≤ y) := by
  have h := List.pairwise_mergeSort (le := fun x y : Int => decide (x ≤ y)) (fun a b c h1 h2 => by simp at *; omega) (fun a b => by simp; omega) l
  exact h.imp (fun h => by simpa using h)
theorem sorted_uniq {a b : List Int} (ha : a.Pairwise (fun x y => x ≤ y)) (hb : b.Pairwise (fun x y => x ≤ y)) (h : a.Perm b) : a = b :=
  List.Perm.eq_of_pairwise (fun x y _ _ h1 h2 => Int.le_antisymm h1 h2) ha hb h
theorem sortI_perm (l : List Int) : (sortI l).Perm l := List.mergeSort_perm l _
theorem swept_same {G G2 : GS} {i : Int} {r : List Int} (h : Ok G) (hac : Acyc G) (hs : Step i G r G2) (hc : Clean i G G2) (hr : Rest G2) {out s : List Int} {m : List (Int × GO)} (hR : Rem G.objs out m) (hd : ∀ x ∈ m, ¬ Away m x)
    (hp : s.Perm out) (hso : s.Pairwise (fun x y => x ≤ y)) : s = sortI r ∧ shape m = shape G2.objs := by
  have h1 := rem_sub h hs hc hr hR
  have h2 := sub_rem h hac hs hc hR hd
  have hpr : out.Perm r := (List.perm_ext_iff_of_nodup (rem_nodup hR) hs.nodup).2 (fun y => ⟨h1 y, h2 y⟩)
  refine ⟨sorted_uniq hso (sortI_sorted r) ((hp.trans hpr).trans (sortI_perm r).symm), asc_ext (shape_asc (rem_asc hR h.asc)) (shape_asc hs.ok.asc) (fun e => ?_)⟩
  have hlinks : ∀ {y : Int} {q p : GO}, (y, q) ∈ G2.objs → (y, p) ∈ G.objs → q.links = p.links := fun {y q p} hq hp => by
    by_cases hi : y = i
    · subst hi
      exact (hc _ hq).1 p hp
    · exact hs.same _ _ _ hq hp hi
  unfold shape
  rw [List.mem_map, List.mem_map]
  constructor
  · rintro ⟨x, hx, rfl⟩
    obtain ⟨hxl, hxo⟩ := (rem_mem hR x).1 hx
    rcases hs.kept x.1 x.2 hxl with hk | ⟨q, hq⟩
    · exact absurd (h2 _ hk) hxo
    obtain ⟨p, hp, e1, e2, -⟩ := hs.back _ _ hq
    obtain rfl := asc_uniq h.asc hxl hp
    exact ⟨_, hq, by simp only [shp]; rw [e1, e2, hlinks hq hxl]⟩
  · rintro ⟨x, hx, rfl⟩
    obtain ⟨p, hp, e1, e2, -⟩ := hs.back x.1 x.2 hx
    refine ⟨(x.1, p), (rem_mem hR _).2 ⟨hp, fun ho => (hs.gone _ (h1 _ ho)).2.2 _ hx⟩, ?_⟩
    simp only [shp]
    rw [e1, e2, hlinks hx hp]
theorem rem_none {l m : List (Int × GO)} {out : List Int} (hR : Rem l out m) (hn : ∀ x ∈ l, ¬ Away l x) : out = [] ∧ m = l := by
  induction hR with
  | nil => exact ⟨rfl, rfl⟩
  | snoc h hx ha ih =>
    obtain ⟨rfl, rfl⟩ := ih
    exact absurd ha (hn _ hx)
theorem rest_none {G : GS} (h : Ok G) (hr : Rest G) : ∀ x ∈ G.objs, ¬ Away G.objs x := by
  rintro x hx ⟨h1, h2, h3⟩
  have h4 := hr x hx
  have h5 := h.leads x hx
  rw [h3] at h5
  omega
end
end Go.Proofs.YthifdofdoeaemaaGreatDoor.Wk
end
section
namespace Go.Proofs.YthifdofdoeaemaaGreatDoor.Wk
open Go.RowKit Go.Proofs.YthifdofdoeaemaaGreatDoorW.PrintWords Go.Proofs.YthifdofdoeaemaaGreatDoorW.PrintLast Go.Proofs.YthifdofdoeaemaaGreatDoorW.PrintMore
attribute [local go_sem] max2_int min2_int max_two min_two max_three min_three max_four min_four
set_option linter.unusedVariables false
set_option linter.unusedSimpArgs false
section
open Go.RowKit Go.Lib Go.Maps Go.Proofs.YthifdofdoeaemaaGreatDoorQ
attribute [local go_sem] Oper.semAt_some
theorem asc_idx {l : List (Int × GO)} (ha : Asc l) {i j : Nat} {x y : Int × GO} (hx : l[i]? = some x) (hy : l[j]? = some y) (he : x.1 = y.1) : i = j := by
  obtain ⟨h1, rfl⟩ := List.getElem?_eq_some_iff.1 hx
  obtain ⟨h2, rfl⟩ := List.getElem?_eq_some_iff.1 hy
  have hp := List.pairwise_iff_getElem.1 ha
  rcases Nat.lt_trichotomy i j with h | h | h
  · have := hp i j h1 h2 h; omega
  · exact h
  · have := hp j i h2 h1 h; omega
theorem refAt_at (w : World) (g : Nat) (next : Int) (A : Option Addr) (c : Nat) (l : List (Int × GO)) (hr : RefR w g next A c l) (ha : Asc l) (hb : l.length ≤ bound) {i : Nat} {x : Int × GO} (hx : l[i]? = some x) (id iv : Int) (hid : id = x.1) (hiv : iv = (i : Int)) :
    Calls Tryz.prog 56 #[.pointer (some ⟨g, 0, none⟩), .int .i64 id] w fun e w' => e = .returned (.int .i64 iv) ∧ w' = w := by
  refine (refAt_calls w g next A c l id hr hb).mono ?_
  rintro e w' ⟨r, h, rfl, rfl⟩
  refine ⟨?_, rfl⟩
  rcases h with ⟨j, y, h1, h2, h3⟩ | ⟨-, h2⟩
  · rw [h3, hiv, asc_idx ha h1 hx (h2.trans hid)]
  · exact absurd hid.symm (h2 x (List.mem_of_getElem? hx))
theorem at_idx {G : GS} {id : Int} {o : GO} (h : G.at id = some o) : ∃ i : Nat, G.objs[i]? = some (id, o) := List.mem_iff_getElem?.1 (at_mem h)
theorem setO_at {l : List (Int × GO)} (ha : Asc l) {i : Nat} {x : Int × GO} (hx : l[i]? = some x) (f : GO → GO) : setO l x.1 f = l.set i (x.1, f x.2) := by
  refine List.ext_getElem? (fun j => ?_)
  unfold setO
  rw [List.getElem?_map, List.getElem?_set]
  by_cases hj : i = j
  · subst hj
    rw [if_pos rfl, hx, if_pos (List.getElem?_eq_some_iff.1 hx).1]
    simp
  · rw [if_neg hj]
    cases hy : l[j]? with
    | none => rfl
    | some y =>
      have : y.1 ≠ x.1 := fun e => hj (asc_idx ha hx hy e.symm)
      simp [this]
def LnkP (l : List Lk) (n : ByteArray) (r : Int) : Prop := (∃ (j : Nat) (k : Lk), l[j]? = some k ∧ lnk l n = some k ∧ r = (j : Int)) ∨ (r = -1 ∧ lnk l n = none)
theorem lnk_at {n : ByteArray} {k : Lk} : ∀ {l : List Lk} {j : Nat}, l[j]? = some k → k.1 = n → (∀ y ∈ l.take j, y.1 ≠ n) → lnk l n = some k
  | [], j, h, _, _ => by simp at h
  | y :: l, 0, h, he, _ => by
    cases h
    unfold lnk
    rw [List.find?_cons, he]
    simp
  | y :: l, j + 1, h, he, hn => by
    have h1 := hn y (by simp)
    have ih := lnk_at (l := l) (j := j) (by simpa using h) he (fun z hz => hn z (by simp [hz]))
    unfold lnk at ih ⊢
    rw [List.find?_cons, ih]
    have : ¬ y.1.data.toList = n.data.toList := fun e => h1 (bytes_inj e)
    simp [this]
set_option maxHeartbeats 4000000 in
set_option maxRecDepth 100000 in
theorem refLink_calls (w : World) (g : Nat) (next : Int) (A : Option Addr) (c : Nat) (l : List (Int × GO)) (hr : RefR w g next A c l) (ha : Asc l) (hb : l.length ≤ bound) {i : Nat} {x : Int × GO} (hx : l[i]? = some x) (hxb : x.2.links.length ≤ bound) (id : Int) (hid : id = x.1) (nm : ByteArray) :
    Calls Tryz.prog 90 #[.pointer (some ⟨g, 0, none⟩), .int .i64 id, .string nm] w fun e w' => ∃ r, LnkP x.2.links nm r ∧ e = .returned (.int .i64 r) ∧ ∃ m, w' = w.drewN m := by
  obtain ⟨iv, hiv⟩ : ∃ iv, iv = (i : Int) := ⟨_, rfl⟩
  obtain ⟨b, o, Ax, cx, rfl, -, -, -, x2, -, -, hxr⟩ := hr.objs.at hx
  have HR := Aside0.mk hr
  have HA := Aside0.mk ha
  have HB := Aside0.mk hb
  have HX := Aside0.mk hx
  have HXB := Aside0.mk hxb
  have HXR := Aside0.mk hxr
  have HID := Aside0.mk hid
  have HIV := Aside0.mk hiv
  have c1 := hr.c1
  have hil := (List.getElem?_eq_some_iff.1 hx).1
  have q2 : (iv < (l.length : Int)) = True := eq_true (by omega)
  have q3 : ((0 : Int) ≤ iv) = True := eq_true (by omega)
  have q4 : iv.toNat = i := by omega
  clear hr ha hb hx hxb hxr hid hiv hil
  go_enter Tryz.func90, Tryz.ntmps90
  go_upto_region 1 with (fail)
  go_big_quiet ((go_at_call 56; exact Calls.quiet_of_same (refAt_at _ g next _ c l (HR.out.below (below_dn2 _ _)) HA.out HB.out HX.out id iv HID.out HIV.out)))
  clear c1 x2 q2 q3 q4
  go_upto_region 3 with (fail)
  obtain ⟨W1, hW1⟩ : ∃ W1, W1 = w.drewN nq := ⟨_, rfl⟩
  rw [← hW1]
  have HW1 := Aside0.mk hW1
  have HXR1 : Aside0 (LinksR W1 Ax x.2.links) := ⟨by rw [hW1]; exact HXR.out.below (below_dn2 _ _)⟩
  clear hW1
  go_loopg [8] x.2.links.length (fun kq v8 W => ∃ (j : Nat) (jv : Int), v8 = .int .i64 jv ∧ Aside0 (jv = (j : Int)) ∧ Aside0 (j ≤ x.2.links.length ∧ x.2.links.length - j ≤ kq) ∧ Aside0 (∀ y ∈ x.2.links.take j, y.1 ≠ nm) ∧ W = W1)
  case atStart => exact ⟨0, 0, rfl, ⟨rfl⟩, ⟨by omega, by omega⟩, ⟨by simp⟩, rfl⟩
  case round =>
    obtain ⟨j, jv, rfl, HJV, HJ, HN, rfl⟩ := hrel
    by_cases hlt : j < x.2.links.length
    · obtain ⟨k, hk⟩ : ∃ k, x.2.links[j]? = some k := ⟨_, List.getElem?_eq_getElem hlt⟩
      obtain ⟨b2, o2, rfl, -, k0, -, -⟩ := HXR1.out.at hk
      have q1 : decide (jv < (x.2.links.length : Int)) = true := decide_eq_true (by have := HJV.out; omega)
      have q2 : (jv < (x.2.links.length : Int)) = True := eq_true (by have := HJV.out; omega)
      have q3 : ((0 : Int) ≤ jv) = True := eq_true (by have := HJV.out; omega)
      have q4 : jv.toNat = j := by have := HJV.out; omega
      have w1_ : wrap64 (jv + 1) = jv + 1 := wrap_ok9 _ (by have := HJV.out; omega) (by have := HJV.out; have := HXB.out; unfold bound at this; omega)
      have HLT := Aside0.mk hlt
      have HK := Aside0.mk hk
      clear hk hlt
      by_cases he : k.1 = nm
      · have e1 : (k.1.toList == nm.toList) = true := by rw [he]; simp
        have e2 : (k.1.toList = nm.toList) = True := eq_true (by rw [he])
        have HE := Aside0.mk he
        clear he
        go_wp2
        go_ret
        exact ⟨jv, .inl ⟨j, k, HK.out, lnk_at HK.out HE.out HN.out, HJV.out⟩, rfl, _, HW1.out⟩
      · have hne : ¬ k.1.toList = nm.toList := fun e => he (by rw [ByteArray.toList_eq, ByteArray.toList_eq] at e; exact bytes_inj e)
        have e1 : (k.1.toList == nm.toList) = false := by simpa using hne
        have e2 : (k.1.toList = nm.toList) = False := eq_false hne
        have HE := Aside0.mk he
        clear he hne
        go_wp2
        clear q4
        go_roundg (gk - 1)
        case measure => have := HJ.out; have := HLT.out; omega
        case rel => exact ⟨j + 1, jv + 1, by first | rfl | rw [w1_], ⟨by have := HJV.out; omega⟩, ⟨by have := HLT.out; omega, by have := HJ.out; omega⟩, ⟨fun z hz => by
          rw [List.take_add_one, HK.out] at hz
          rcases List.mem_append.1 hz with hz | hz
          · exact HN.out z hz
          · obtain rfl : z = k := by simpa using hz
            exact HE.out⟩, rfl⟩
    · have q1 : decide (jv < (x.2.links.length : Int)) = false := decide_eq_false (by have := HJV.out; omega)
      have q2 : (jv < (x.2.links.length : Int)) = False := eq_false (by have := HJV.out; omega)
      have HLT := Aside0.mk hlt
      clear hlt
      go_wp2
      go_ret
      exact ⟨-1, .inr ⟨rfl, lnk_none_of (by have := HN.out; rw [List.take_of_length_le (by have := HLT.out; omega)] at this; exact this)⟩, rfl, _, HW1.out⟩
end
end Go.Proofs.YthifdofdoeaemaaGreatDoor.Wk
end
