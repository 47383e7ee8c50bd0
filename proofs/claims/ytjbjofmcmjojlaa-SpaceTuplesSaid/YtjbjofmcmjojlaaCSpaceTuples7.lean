-- Texts that the row SpaceTuples leans on, joined by wip/tools/mkclaim.py: Sel, SelS, WSized, LawSpaceTuples
import Derived.Test.YtjbjofmcmjojlaaCSpaceTuples6
import Derived.Deep.Slices
import Derived.SizedLaws
import Derived.ChangeSlices
import Derived.Test.YtjbjofmcmjojlaaRows
import Derived.WalkKit
import Derived.ProofKit
import Derived.OpenShut
import Derived.ShutString
import Derived.ChangeOld
import Derived.Below
section
namespace Go.Proofs.Ytjbjofmcmjojlaa.Sel
open Go.ChangeShapes Go.WideShapes Go.RowKit Go.Deep Go.Proofs.YtjbjofmcmjojlaaW.PrintWords Go.Proofs.YtjbjofmcmjojlaaW.PrintLast Go.Proofs.YtjbjofmcmjojlaaW.PrintMore
section
variable {H : Type} {enc : TypeId × Value → H} {P : Program} {w : World} {base : Nat} {held : Bool}
def FitW (l : List Int) : Prop := l.length ≤ maxLen ∧ ∀ x ∈ l, (Lit.int .i64 x).wf = true
theorem open_row {t e : TypeId} {fuel : Nat} {cs : List Value} {x : DataW H × List MemPlace} (ht : P.underlying t = some (.slice e)) (he : P.underlying e = some (.int .i64)) (hc : P.cellsOf e = 1)
    (h : DataW.trod enc P w base (fun _ => true) held fuel t cs = some x) : ∃ A c l, cs = [.slice A l.length c] ∧ Kd.C (Kd.int .i64) w A l.length l ∧ l.length ≤ c ∧ FitW l := by
  have key : ∃ a len cap zs, cs = [.slice a len cap] ∧ ((a = none ∧ len = 0 ∧ cap = 0 ∧ zs = []) ∨ ∃ x, a = some x ∧ len ≤ cap ∧ cap ≤ maxLen ∧ zs.length = cap ∧ (∀ i, i < zs.length → w.cell? (x.add i) = some (.int .i64 (zs.getD i 0))) ∧ ∀ n ∈ zs, (Lit.int .i64 n).wf = true) := by
    rcases open_ints ht he hc h with ⟨hcs, _⟩ | ⟨x, l, c, zs, hcs, _, hl, hm, hz, _, hcell, hwz⟩
    · exact ⟨none, 0, 0, [], hcs, .inl ⟨rfl, rfl, rfl, rfl⟩⟩
    · exact ⟨some x, l, c, zs, hcs, .inr ⟨x, rfl, hl, hm, by simpa using hz, hcell, hwz⟩⟩
  obtain ⟨a, len, cap, zs, hcs, hrow⟩ := key
  obtain ⟨l, rfl, hr, hm, hw, hc'⟩ := ReadsInt.ofRowC hrow
  exact ⟨a, cap, l, hcs, Kd.C_of_reads (d := (0 : Int)) (h1 := fun _ => rfl) hr, hc', hm, hw⟩
end
section
variable {H : Type} {enc : TypeId × Value → H} {W : World} {base : Nat} {v : Value} {d : DataW H} {p : List MemPlace}
theorem open_ints_arg (hval : Value.okWide Try.prog W .any base 22 v) (h : DataW.Trod enc Try.prog W 0 (fun _ => true) true 22 v d p) :
    ∃ A c l, v = .slice A l.length c ∧ Kd.C (Kd.int .i64) W A l.length l ∧ l.length ≤ c ∧ FitW l := by
  obtain ⟨a0, len0, cap0, rfl⟩ := okWide_slice Try.underlying22 hval
  obtain ⟨n, h⟩ := h
  obtain ⟨A, c, l, hcs, h2, h3, h4⟩ := open_row Try.underlying22 Try.underlying3 (by kernel_rfl) h
  simp [Value.cells] at hcs
  obtain ⟨rfl, rfl, rfl⟩ := hcs
  exact ⟨_, _, l, rfl, h2, h3, h4⟩
end
end Go.Proofs.Ytjbjofmcmjojlaa.Sel
end
section
namespace Go.Proofs.Ytjbjofmcmjojlaa.Sel
open Go.ChangeShapes Go.WideShapes Go.RowKit Go.Deep Go.Proofs.YtjbjofmcmjojlaaW.PrintWords Go.Proofs.YtjbjofmcmjojlaaW.PrintLast Go.Proofs.YtjbjofmcmjojlaaW.PrintMore
section
variable {H : Type} {enc : TypeId × Value → H} {P : Program} {w : World} {base : Nat} {held : Bool}
theorem row_sized {t e : TypeId} {fuel n c : Nat} {A : Option Addr} {x : DataW H × List MemPlace} (ht : P.underlying t = some (.slice e)) (hc : P.cellsOf e = 1)
    (h : DataW.trod enc P w base (fun _ => true) held fuel t [.slice A n c] = some x) (hw : ∀ m ∈ x.1.weights P t, m ≤ reachBytes) : n * P.bytesOf e ≤ reachBytes := by
  rcases open_slice1 ht hc h with ⟨hcs, _⟩ | ⟨a, len, cap, m, _, V, D, Pl, hcs, _, hl, hm, hmm, hx, _⟩
  · simp at hcs
    simp [hcs.2.1]
  · simp at hcs
    obtain ⟨_, rfl, _⟩ := hcs
    simp only [if_true] at hmm
    subst hx
    have := hw ((n + (m - n)) * P.bytesOf e) (by simp [DataW.weights, ht])
    exact Nat.le_trans (Nat.mul_le_mul_right _ (by omega)) this
theorem open_rowsS {t e q : TypeId} {fuel : Nat} {cs : List Value} {x : DataW H × List MemPlace} (ht : P.underlying t = some (.slice e)) (he : P.underlying e = some (.slice q)) (hq : P.underlying q = some (.int .i64)) (ce : P.cellsOf e = 1) (cq : P.cellsOf q = 1)
    (h : DataW.trod enc P w base (fun _ => true) held fuel t cs = some x) (hw : ∀ m ∈ x.1.weights P t, m ≤ reachBytes) : ∃ A c ll, cs = [.slice A ll.length c] ∧ Kd.C (Kd.slice q (Kd.int .i64)) w A ll.length ll ∧ ll.length ≤ c ∧ ll.length ≤ maxLen ∧ (∀ l ∈ ll, FitW l) ∧ ll.length * P.bytesOf e ≤ reachBytes ∧ ∀ l ∈ ll, l.length * P.bytesOf q ≤ reachBytes := by
  rcases open_slice1 ht ce h with ⟨hcs, _⟩ | ⟨a, len, cap, m, n, V, D, Pl, hcs, _, hl, hm, hmm, hx1, hx⟩
  · exact ⟨none, 0, [], hcs, ⟨rfl, by simp, by simp⟩, by simp, by simp, by simp, by simp, by simp⟩
  · simp only [if_true] at hmm
    subst hmm
    obtain ⟨y, hy⟩ := choose_lt (α := Option Addr × Nat × List Int) (p := fun i y => V i = .slice y.1 y.2.2.length y.2.1 ∧ Kd.C (Kd.int .i64) w y.1 y.2.2.length y.2.2 ∧ y.2.2.length ≤ y.2.1 ∧ FitW y.2.2 ∧ y.2.2.length * P.bytesOf q ≤ reachBytes) (n := len) (fun i hi => by
      obtain ⟨A, c, l, h1, h2, h3, h4⟩ := open_row he hq cq (hx i (by omega)).2
      have hV : V i = .slice A l.length c := by simpa using h1
      refine ⟨(A, c, l), hV, h2, h3, h4, ?_⟩
      have h5 := (hx i (by omega)).2
      rw [hV] at h5
      refine row_sized he cq h5 (fun k hk => hw k ?_)
      rw [hx1]
      simp only [DataW.weights, ht]
      refine List.mem_cons_of_mem _ (List.mem_append_left _ ?_)
      have hall : ∀ (ds : List (DataW H)) (d : DataW H), d ∈ ds → ∀ k ∈ d.weights P e, k ∈ DataW.weightsAll P e ds := by
        intro ds
        induction ds with
        | nil => intro d hd; simp at hd
        | cons d' ds ih =>
          intro d hd k hk
          rw [DataW.weightsAll]
          rcases List.mem_cons.1 hd with rfl | hd
          · exact List.mem_append_left _ hk
          · exact List.mem_append_right _ (ih d hd k hk)
      exact hall _ (D i) (List.mem_map.2 ⟨i, List.mem_range.2 hi, rfl⟩) k hk)
    have hlen : ((List.range len).map fun i => (y i).2.2).length = len := by simp
    refine ⟨some a, m, (List.range len).map fun i => (y i).2.2, by rw [hlen]; exact hcs, ⟨rfl, by rw [hlen]; have : m ≤ maxLen := hm; simp only [maxLen] at this; omega, fun _ => ⟨a, rfl, fun j p hj => ?_⟩⟩, by rw [hlen]; exact hl, by rw [hlen]; omega, fun l hl' => ?_, ?_, fun l hl' => ?_⟩
    · obtain ⟨hjl, rfl⟩ := List.getElem?_eq_some_iff.1 hj
      rw [hlen] at hjl
      obtain ⟨y1, y2, y3, y4, y5⟩ := hy j (by omega)
      have hc1 := (hx j (by omega)).1
      rw [y1] at hc1
      refine ⟨[.slice (y j).1 (y j).2.2.length (y j).2.1], rfl, ⟨(y j).1, (y j).2.1, by simp, by simpa using y3, by simpa using y2⟩, fun i u hu => ?_⟩
      match i, hu with
      | 0, hu =>
        simp at hu
        subst hu
        simpa [Kd.slice] using hc1
    · obtain ⟨j, hj, rfl⟩ := List.mem_map.1 hl'
      exact (hy j (List.mem_range.1 hj)).2.2.2.1
    · rw [hlen]
      rw [hcs] at h
      exact row_sized ht ce h hw
    · obtain ⟨j, hj, rfl⟩ := List.mem_map.1 hl'
      exact (hy j (List.mem_range.1 hj)).2.2.2.2
end
section
variable {H : Type} {enc : TypeId × Value → H} {W : World} {base : Nat} {v : Value} {d : DataW H} {p : List MemPlace}
theorem open_selS (hval : Value.okWide Try.prog W .any base 33 v) (h : DataW.Trod enc Try.prog W 0 (fun _ => true) true 33 v d p) (hw : ∀ m ∈ d.weights Try.prog 33, m ≤ reachBytes) :
    ∃ kd A1 c1 l1 A2 c2 l2 A3 c3 l3 A4 c4 l4 A5 c5 l5, v = .agg #[.int .i64 kd, .slice A1 (List.length l1) c1, .slice A2 (List.length l2) c2, .slice A3 (List.length l3) c3, .slice A4 (List.length l4) c4, .slice A5 (List.length l5) c5] ∧ (Lit.int .i64 kd).wf = true ∧
      (Kd.C (Kd.slice 3 (Kd.int .i64)) W A1 l1.length l1 ∧ l1.length ≤ c1 ∧ l1.length ≤ maxLen ∧ (∀ l ∈ l1, FitW l) ∧ l1.length * 24 ≤ reachBytes ∧ ∀ l ∈ l1, l.length * 8 ≤ reachBytes) ∧
      (Kd.C (Kd.int .i64) W A2 l2.length l2 ∧ l2.length ≤ c2 ∧ FitW l2 ∧ l2.length * 8 ≤ reachBytes) ∧ (Kd.C (Kd.int .i64) W A3 l3.length l3 ∧ l3.length ≤ c3 ∧ FitW l3 ∧ l3.length * 8 ≤ reachBytes) ∧
      (Kd.C (Kd.int .i64) W A4 l4.length l4 ∧ l4.length ≤ c4 ∧ FitW l4 ∧ l4.length * 8 ≤ reachBytes) ∧ (Kd.C (Kd.int .i64) W A5 l5.length l5 ∧ l5.length ≤ c5 ∧ FitW l5 ∧ l5.length * 8 ≤ reachBytes) := by
  obtain ⟨cs, rfl, hsz⟩ := okWide_struct Try.underlying33 hval
  obtain ⟨n, h⟩ := h
  obtain ⟨xs, m, _, hxx, _, hxs, hf⟩ := DataW.trod_struct Try.underlying33 h
  have c33 : Try.prog.cellsOf 33 = 6 := by kernel_rfl
  have c30 : Try.prog.cellsOf 30 = 1 := by kernel_rfl
  have c31 : Try.prog.cellsOf 31 = 1 := by kernel_rfl
  have c22 : Try.prog.cellsOf 22 = 1 := by kernel_rfl
  have c3 : Try.prog.cellsOf 3 = 1 := by kernel_rfl
  have b22 : Try.prog.bytesOf 22 = 24 := by kernel_rfl
  have b3 : Try.prog.bytesOf 3 = 8 := by kernel_rfl
  rw [c33] at hsz
  obtain ⟨cs⟩ := cs
  match cs, hsz, xs, hxs with
  | [u0, u1, u2, u3, u4, u5], _, [x0, x1, x2, x3, x4, x5], _ =>
    have t0 : DataW.trod enc Try.prog W 0 (fun _ => true) true m 30 [u0] = some x0 := by simpa [c30, Value.cells] using hf 0 _ rfl
    have t1 : DataW.trod enc Try.prog W 0 (fun _ => true) true m 31 [u1] = some x1 := by simpa [c31, Value.cells] using hf 1 _ rfl
    have t2 : DataW.trod enc Try.prog W 0 (fun _ => true) true m 22 [u2] = some x2 := by simpa [c22, Value.cells] using hf 2 _ rfl
    have t3 : DataW.trod enc Try.prog W 0 (fun _ => true) true m 22 [u3] = some x3 := by simpa [c22, Value.cells] using hf 3 _ rfl
    have t4 : DataW.trod enc Try.prog W 0 (fun _ => true) true m 22 [u4] = some x4 := by simpa [c22, Value.cells] using hf 4 _ rfl
    have t5 : DataW.trod enc Try.prog W 0 (fun _ => true) true m 22 [u5] = some x5 := by simpa [c22, Value.cells] using hf 5 _ rfl
    have hd : d = .agg [x0.1, x1.1, x2.1, x3.1, x4.1, x5.1] := by simpa using congrArg Prod.fst hxx
    have W1 : ∀ k ∈ x1.1.weights Try.prog 31, k ≤ reachBytes := fun k hk => hw k (by rw [hd]; simp only [DataW.weights, Try.underlying33]; simp [DataW.weightsEach, hk])
    have W2 : ∀ k ∈ x2.1.weights Try.prog 22, k ≤ reachBytes := fun k hk => hw k (by rw [hd]; simp only [DataW.weights, Try.underlying33]; simp [DataW.weightsEach, hk])
    have W3 : ∀ k ∈ x3.1.weights Try.prog 22, k ≤ reachBytes := fun k hk => hw k (by rw [hd]; simp only [DataW.weights, Try.underlying33]; simp [DataW.weightsEach, hk])
    have W4 : ∀ k ∈ x4.1.weights Try.prog 22, k ≤ reachBytes := fun k hk => hw k (by rw [hd]; simp only [DataW.weights, Try.underlying33]; simp [DataW.weightsEach, hk])
    have W5 : ∀ k ∈ x5.1.weights Try.prog 22, k ≤ reachBytes := fun k hk => hw k (by rw [hd]; simp only [DataW.weights, Try.underlying33]; simp [DataW.weightsEach, hk])
    obtain ⟨kd, e0, _, w0⟩ := DataW.trod_int Try.underlying30 t0
    obtain ⟨A1, c1, l1, e1, g1, g1', g1'', g1a, g1b, g1c⟩ := open_rowsS Try.underlying31 Try.underlying22 Try.underlying3 c22 c3 t1 W1
    obtain ⟨A2, c2, l2, e2, g2, g2', g2''⟩ := open_row Try.underlying22 Try.underlying3 c3 t2
    obtain ⟨A3, c3', l3, e3, g3, g3', g3''⟩ := open_row Try.underlying22 Try.underlying3 c3 t3
    obtain ⟨A4, c4, l4, e4, g4, g4', g4''⟩ := open_row Try.underlying22 Try.underlying3 c3 t4
    obtain ⟨A5, c5, l5, e5, g5, g5', g5''⟩ := open_row Try.underlying22 Try.underlying3 c3 t5
    obtain rfl : u0 = _ := by simpa using e0
    obtain rfl : u1 = _ := by simpa using e1
    obtain rfl : u2 = _ := by simpa using e2
    obtain rfl : u3 = _ := by simpa using e3
    obtain rfl : u4 = _ := by simpa using e4
    obtain rfl : u5 = _ := by simpa using e5
    have s2 := row_sized Try.underlying22 c3 t2 W2
    have s3 := row_sized Try.underlying22 c3 t3 W3
    have s4 := row_sized Try.underlying22 c3 t4 W4
    have s5 := row_sized Try.underlying22 c3 t5 W5
    rw [b3] at s2 s3 s4 s5 g1c
    rw [b22] at g1b
    exact ⟨kd, A1, c1, l1, A2, c2, l2, A3, c3', l3, A4, c4, l4, A5, c5, l5, rfl, w0, ⟨g1, g1', g1'', g1a, g1b, g1c⟩, ⟨g2, g2', g2'', s2⟩, ⟨g3, g3', g3'', s3⟩, ⟨g4, g4', g4'', s4⟩, ⟨g5, g5', g5'', s5⟩⟩
end
end Go.Proofs.Ytjbjofmcmjojlaa.Sel
end
section
namespace Go.Proofs.YtjbjofmcmjojlaaW.PrintWords
open Go.ChangeShapes Go.WideShapes
end Go.Proofs.YtjbjofmcmjojlaaW.PrintWords
end
section
namespace Go.Proofs.Ytjbjofmcmjojlaa.spaceTuples
open Go.ChangeShapes Go.WideShapes Go.ChangeAt Go.RowKit
open Go.ChangeMaps (open_string shut_string)
set_option linter.unusedVariables false
theorem own : ownKnob Try.prog.godebug = none := by kernel_rfl
theorem laidOut : laidOutB Try.prog = true := by kernel_rfl
set_option maxRecDepth 100000 in
theorem lifted (os : Os) (started : os.Started) (H : Type) (enc : TypeId × Value → H) :
    ReturnsInHanded {} Try.checked os 8 .any (Rows.spaceTuplesSpec.pre6 enc Try.prog Try.f8 Rows.spaceTuplesRow.domain false) (Rows.spaceTuplesSpec.post enc Try.prog Try.f8 false true false false) := by
  refine returnsInHanded_of_change_sized (C := Try.checked) own started (by kernel_rfl) Try.func8
    (ChangeSpec.witness6 (enc := enc) (C := Try.checked) false ⟨#[], #[.slice none 0 0, .agg #[.int .i64 0, .slice none 0 0, .slice none 0 0, .slice none 0 0, .slice none 0 0, .slice none 0 0]], []⟩ 8 (by kernel_rfl) (by kernel_rfl) (by kernel_rfl) (by kernel_rfl)) ?_
  intro W base args ds gs before hval0 hW hcnd hsz0 _
  have hsz : (DataW.weightsEach Try.prog (Try.f8.params.toList ++ Rows.spaceTuplesSpec.plain.varTypes Try.prog) (ds ++ gs)).all (· ≤ reachBytes) = true := hsz0
  have hval : ∀ (j : Nat) t v, Try.f8.params[j]? = some t → args[j]? = some v → Value.okWide Try.prog W .any base t v := hval0
  have hW' := hW
  obtain ⟨p, q, hA0, hV, rfl, hfz, hnd⟩ := hW
  have hA : DataW.TrodAll enc Try.prog W 0 (fun _ => true) true Try.f8.params.toList args.toList ds p := hA0
  rw [Try.params8] at hA hval hsz
  obtain ⟨v0, vs0, d0, ds0, p0, q0, hargs, rfl, rfl, h0, r0⟩ := trodAll_cons hA
  obtain ⟨v1, vs1, d1, ds1, p1, q1, rfl, rfl, rfl, h1, r1⟩ := trodAll_cons r0
  obtain ⟨rfl, rfl, rfl⟩ := trodAll_nil r1
  obtain rfl : args = #[v0, v1] := by cases args; simp_all
  obtain ⟨rfl, rfl⟩ := trodVars_none hV
  have k0 := h0
  have k1 := h1
  have lt0 : ∀ x ∈ p0, x.block < W.heap.size := by obtain ⟨m, hm⟩ := k0; exact DataW.trod_lt m _ _ _ hm
  have lt1 : ∀ x ∈ p1, x.block < W.heap.size := by obtain ⟨m, hm⟩ := k1; exact DataW.trod_lt m _ _ _ hm
  obtain ⟨A0, c0, l0, rfl, a1, a2, a3⟩ := Sel.open_ints_arg (hval 0 22 v0 rfl rfl) h0
  obtain ⟨kd, A1, c1, l1, A2, c2, l2, A3, c3, l3, A4, c4, l4, A5, c5, l5, rfl, wk, ⟨b1, b2, b3, b4, b5, b6⟩, ⟨e1, e2, e3, e4⟩, ⟨f1, f2, f3, f4⟩, ⟨g1, g2, g3, g4⟩, ⟨i1, i2, i3, i4⟩⟩ := Sel.open_selS (hval 1 33 v1 rfl rfl) h1 (fun m hm => by simpa using List.all_eq_true.1 hsz _ (DataW.weights_mem_each (j := 1) rfl rfl m hm))
  have hS : Pure.Short l1 l2 l3 l4 l5 := by
    simp only [reachBytes] at b5 b6 e4 f4 g4 i4
    exact ⟨by omega, fun x hx => by have := b6 x hx; omega, by omega, by omega, by omega, by omega⟩
  clear hA0 hval0 hsz0 hsz
  have F : ∀ {l : List Int}, Sel.FitW l → Pure.Fit l := fun h => Pure.fit_wf h.1 h.2
  obtain ⟨k, hk⟩ := Pure.SpaceTuples l0 kd l1 l2 l3 l4 l5 (F a3) hS (F e3) (F f3) (F g3) (F i3)
  refine (Wk.slabvaultlaw12_SpaceTuples.calls k A0 c0 l0 kd A1 c1 l1 A2 c2 l2 A3 c3 l3 A4 c4 l4 A5 c5 l5 true W a1 a2 b1 b2 e1 e2 f1 f2 g1 g2 i1 i2 hk).mono fun e W' ⟨he, bel⟩ => ?_
  subst he
  exact ⟨_, rfl, _, _, _, [], _, [], hW', trodAll_mk1 (shut_bool Try.underlying4 _), (trodAll_cons_mk (Below.trod laidOut (by kernel_rfl) (of_decide_eq_true (by kernel_rfl)) k0 bel lt0) (trodAll_cons_mk (Below.trod laidOut (by kernel_rfl) (of_decide_eq_true (by kernel_rfl)) k1 bel lt1) trodAll_mk0)), rfl, bel.frame _, fun h => by cases h⟩
theorem over : Rows.spaceTuplesRow.holds Try.pinned (OpenSpec.ofChange Rows.spaceTuplesSpec) :=
  OpenClaim.holds_of_wide 8 Try.f8 rfl rfl rfl rfl rfl rfl rfl ⟨rfl, rfl, rfl, rfl, rfl⟩ rfl rfl rfl rfl rfl (by kernel_rfl) Try.func8 (by kernel_rfl)
    (of_decide_eq_true (by kernel_rfl)) (by unfold Func.isWrapper; first | (rw [if_pos (by decide +kernel)]; kernel_rfl) | (rw [if_neg (by decide +kernel)]; exact ⟨rfl, rfl⟩))
    (fun os started H enc _ => lifted os started H enc)
theorem proved : Rows.SpaceTuplesSaid := over
#print axioms proved
end Go.Proofs.Ytjbjofmcmjojlaa.spaceTuples
namespace Go.Proofs.Ytjbjofmcmjojlaa
theorem spaceTuples_holds : Rows.SpaceTuplesSaid := spaceTuples.proved
end Go.Proofs.Ytjbjofmcmjojlaa
end
