-- Texts that the row GridGrows leans on, joined by wip/tools/mkclaim.py: Sel, SelS, WSized, LawGridGrows
import Derived.Test.YtjbjofmcmjojlabCGridGrows2
import Derived.Deep.Slices
import Derived.SizedLaws
import Derived.ChangeSlices
import Derived.Test.YtjbjofmcmjojlabRows
import Derived.WalkKit
import Derived.ProofKit
import Derived.OpenShut
import Derived.ShutString
import Derived.ChangeOld
import Derived.Below
section
namespace Go.Proofs.Ytjbjofmcmjojlab.Sel
open Go.ChangeShapes Go.WideShapes Go.RowKit Go.Deep Go.Proofs.YtjbjofmcmjojlabW.PrintWords Go.Proofs.YtjbjofmcmjojlabW.PrintLast Go.Proofs.YtjbjofmcmjojlabW.PrintMore
section
variable {H : Type} {enc : TypeId × Value → H} {P : Program} {w : World} {base : Nat} {held : Bool}
def FitK (k : IntKind) (l : List Int) : Prop := l.length ≤ maxLen ∧ ∀ x ∈ l, (Lit.int k x).wf = true
theorem open_row {k : IntKind} {t e : TypeId} {fuel : Nat} {cs : List Value} {x : DataW H × List MemPlace} (ht : P.underlying t = some (.slice e)) (he : P.underlying e = some (.int k)) (hc : P.cellsOf e = 1)
    (h : DataW.trod enc P w base (fun _ => true) held fuel t cs = some x) : ∃ A c l, cs = [.slice A l.length c] ∧ Kd.C (Kd.int k) w A l.length l ∧ l.length ≤ c ∧ FitK k l := by
  have key : ∃ a len cap zs, cs = [.slice a len cap] ∧ ((a = none ∧ len = 0 ∧ cap = 0 ∧ zs = []) ∨ ∃ x, a = some x ∧ len ≤ cap ∧ cap ≤ maxLen ∧ zs.length = cap ∧ (∀ i, i < zs.length → w.cell? (x.add i) = some (.int k (zs.getD i 0))) ∧ ∀ n ∈ zs, (Lit.int k n).wf = true) := by
    rcases open_ints ht he hc h with ⟨hcs, _⟩ | ⟨x, l, c, zs, hcs, _, hl, hm, hz, _, hcell, hwz⟩
    · exact ⟨none, 0, 0, [], hcs, .inl ⟨rfl, rfl, rfl, rfl⟩⟩
    · exact ⟨some x, l, c, zs, hcs, .inr ⟨x, rfl, hl, hm, by simpa using hz, hcell, hwz⟩⟩
  obtain ⟨a, len, cap, zs, hcs, hrow⟩ := key
  obtain ⟨l, rfl, hr, hm, hw, hc'⟩ := ReadsInt.ofRowC hrow
  exact ⟨a, cap, l, hcs, Kd.C_of_reads (d := (0 : Int)) (h1 := fun _ => rfl) hr, hc', hm, hw⟩
end
section
variable {H : Type} {enc : TypeId × Value → H} {W : World} {base : Nat} {v : Value} {d : DataW H} {p : List MemPlace}
theorem open_row_arg {k : IntKind} {t e : TypeId} (ht : Try.prog.underlying t = some (.slice e)) (he : Try.prog.underlying e = some (.int k)) (hc : Try.prog.cellsOf e = 1) (hval : Value.okWide Try.prog W .any base t v) (h : DataW.Trod enc Try.prog W 0 (fun _ => true) true t v d p) :
    ∃ A c l, v = .slice A l.length c ∧ Kd.C (Kd.int k) W A l.length l ∧ l.length ≤ c ∧ FitK k l := by
  obtain ⟨a0, len0, cap0, rfl⟩ := okWide_slice ht hval
  obtain ⟨n, h⟩ := h
  obtain ⟨A, c, l, hcs, h2, h3, h4⟩ := open_row ht he hc h
  simp [Value.cells] at hcs
  obtain ⟨rfl, rfl, rfl⟩ := hcs
  exact ⟨_, _, l, rfl, h2, h3, h4⟩
end
end Go.Proofs.Ytjbjofmcmjojlab.Sel
end
section
namespace Go.Proofs.Ytjbjofmcmjojlab.Sel
open Go.ChangeShapes Go.WideShapes Go.RowKit Go.Deep Go.Proofs.YtjbjofmcmjojlabW.PrintWords Go.Proofs.YtjbjofmcmjojlabW.PrintLast Go.Proofs.YtjbjofmcmjojlabW.PrintMore
section
variable {H : Type} {enc : TypeId × Value → H} {P : Program} {w : World} {base : Nat} {held : Bool}
theorem row_sized {t e : TypeId} {fuel n c : Nat} {A : Option Addr} {x : DataW H × List MemPlace} (ht : P.underlying t = some (.slice e)) (hc : P.cellsOf e = 1)
    (h : DataW.trod enc P w base (fun _ => true) held fuel t [.slice A n c] = some x) (hw : ∀ m ∈ x.1.weights P t, m ≤ reachBytes) : n * P.bytesOf e ≤ reachBytes := by
  rcases open_slice1 ht hc h with ⟨hcs, _⟩ | ⟨a, len, cap, m, _, V, D, Pl, hcs, _, hl, hm, hmm, hx, _⟩
  · simp at hcs
    simp [hcs.2.1]
  · simp at hcs
    obtain ⟨_, rfl, _⟩ := hcs
    simp only [if_true] at hmm
    subst hx
    have := hw ((n + (m - n)) * P.bytesOf e) (by simp [DataW.weights, ht])
    exact Nat.le_trans (Nat.mul_le_mul_right _ (by omega)) this
end
section
variable {H : Type} {enc : TypeId × Value → H} {W : World} {base : Nat} {v : Value} {d : DataW H} {p : List MemPlace}
theorem open_caseS (hval : Value.okWide Try.prog W .any base 33 v) (h : DataW.Trod enc Try.prog W 0 (fun _ => true) true 33 v d p) (hw : ∀ m ∈ d.weights Try.prog 33, m ≤ reachBytes) :
    ∃ A0 c0 X z A2 c2 D A3 c3 H' A4 c4 co A5 c5 L, v = .agg #[.slice A0 (List.length X) c0, .int .i64 z, .slice A2 (List.length D) c2, .slice A3 (List.length H') c3, .slice A4 (List.length co) c4, .slice A5 (List.length L) c5] ∧ (Lit.int .i64 z).wf = true ∧
      (Kd.C (Kd.int .u8) W A0 X.length X ∧ X.length ≤ c0 ∧ FitK .u8 X) ∧ (Kd.C (Kd.int .i64) W A2 D.length D ∧ D.length ≤ c2 ∧ FitK .i64 D ∧ D.length * 8 ≤ reachBytes) ∧ (Kd.C (Kd.int .i64) W A3 H'.length H' ∧ H'.length ≤ c3 ∧ FitK .i64 H') ∧
      (Kd.C (Kd.int .i64) W A4 co.length co ∧ co.length ≤ c4 ∧ FitK .i64 co) ∧ (Kd.C (Kd.int .u8) W A5 L.length L ∧ L.length ≤ c5 ∧ FitK .u8 L) := by
  obtain ⟨cs, rfl, hsz⟩ := okWide_struct Try.underlying33 hval
  obtain ⟨n, h⟩ := h
  obtain ⟨xs, m, _, hxx, _, hxs, hf⟩ := DataW.trod_struct Try.underlying33 h
  have c33 : Try.prog.cellsOf 33 = 6 := by kernel_rfl
  have c31 : Try.prog.cellsOf 31 = 1 := by kernel_rfl
  have c22 : Try.prog.cellsOf 22 = 1 := by kernel_rfl
  have c3 : Try.prog.cellsOf 3 = 1 := by kernel_rfl
  have c5 : Try.prog.cellsOf 5 = 1 := by kernel_rfl
  have b3 : Try.prog.bytesOf 3 = 8 := by kernel_rfl
  rw [c33] at hsz
  obtain ⟨cs⟩ := cs
  match cs, hsz, xs, hxs with
  | [u0, u1, u2, u3, u4, u5], _, [x0, x1, x2, x3, x4, x5], _ =>
    have t0 : DataW.trod enc Try.prog W 0 (fun _ => true) true m 31 [u0] = some x0 := by simpa [c31, Value.cells] using hf 0 _ rfl
    have t1 : DataW.trod enc Try.prog W 0 (fun _ => true) true m 3 [u1] = some x1 := by simpa [c3, Value.cells] using hf 1 _ rfl
    have t2 : DataW.trod enc Try.prog W 0 (fun _ => true) true m 22 [u2] = some x2 := by simpa [c22, Value.cells] using hf 2 _ rfl
    have t3 : DataW.trod enc Try.prog W 0 (fun _ => true) true m 22 [u3] = some x3 := by simpa [c22, Value.cells] using hf 3 _ rfl
    have t4 : DataW.trod enc Try.prog W 0 (fun _ => true) true m 22 [u4] = some x4 := by simpa [c22, Value.cells] using hf 4 _ rfl
    have t5 : DataW.trod enc Try.prog W 0 (fun _ => true) true m 31 [u5] = some x5 := by simpa [c31, Value.cells] using hf 5 _ rfl
    have hd : d = .agg [x0.1, x1.1, x2.1, x3.1, x4.1, x5.1] := by simpa using congrArg Prod.fst hxx
    have W2 : ∀ k ∈ x2.1.weights Try.prog 22, k ≤ reachBytes := fun k hk => hw k (by rw [hd]; simp only [DataW.weights, Try.underlying33]; simp [DataW.weightsEach, hk])
    obtain ⟨A0, c0, X, e0, g0⟩ := open_row Try.underlying31 Try.underlying5 c5 t0
    obtain ⟨z, e1, _, wz⟩ := DataW.trod_int Try.underlying3 t1
    obtain ⟨A2, c2, D, e2, g2⟩ := open_row Try.underlying22 Try.underlying3 c3 t2
    obtain ⟨A3, c3', H', e3, g3⟩ := open_row Try.underlying22 Try.underlying3 c3 t3
    obtain ⟨A4, c4, co, e4, g4⟩ := open_row Try.underlying22 Try.underlying3 c3 t4
    obtain ⟨A5, c5', L, e5, g5⟩ := open_row Try.underlying31 Try.underlying5 c5 t5
    obtain rfl : u0 = _ := by simpa using e0
    obtain rfl : u1 = _ := by simpa using e1
    obtain rfl : u2 = _ := by simpa using e2
    obtain rfl : u3 = _ := by simpa using e3
    obtain rfl : u4 = _ := by simpa using e4
    obtain rfl : u5 = _ := by simpa using e5
    have s2 := row_sized Try.underlying22 c3 t2 W2
    rw [b3] at s2
    exact ⟨A0, c0, X, z, A2, c2, D, A3, c3', H', A4, c4, co, A5, c5', L, rfl, wz, g0, ⟨g2.1, g2.2.1, g2.2.2, s2⟩, g3, g4, g5⟩
end
end Go.Proofs.Ytjbjofmcmjojlab.Sel
end
section
namespace Go.Proofs.YtjbjofmcmjojlabW.PrintWords
open Go.ChangeShapes Go.WideShapes
end Go.Proofs.YtjbjofmcmjojlabW.PrintWords
end
section
namespace Go.Proofs.Ytjbjofmcmjojlab.gridGrows
open Go.ChangeShapes Go.WideShapes Go.ChangeAt Go.RowKit
open Go.ChangeMaps (open_string shut_string)
set_option linter.unusedVariables false
theorem own : ownKnob Try.prog.godebug = none := by kernel_rfl
theorem laidOut : laidOutB Try.prog = true := by kernel_rfl
set_option maxRecDepth 100000 in
theorem lifted (os : Os) (started : os.Started) (H : Type) (enc : TypeId × Value → H) :
    ReturnsInHanded {} Try.checked os 6 .any (Rows.gridGrowsSpec.pre6 enc Try.prog Try.f6 Rows.gridGrowsRow.domain false) (Rows.gridGrowsSpec.post enc Try.prog Try.f6 false true false false) := by
  refine returnsInHanded_of_change_sized (C := Try.checked) own started (by kernel_rfl) Try.func6
    (ChangeSpec.witness6 (enc := enc) (C := Try.checked) false ⟨#[], #[.agg #[.slice none 0 0, .int .i64 0, .slice none 0 0, .slice none 0 0, .slice none 0 0, .slice none 0 0], .slice none 0 0], []⟩ 8 (by kernel_rfl) (by kernel_rfl) (by kernel_rfl) (by kernel_rfl)) ?_
  intro W base args ds gs before hval0 hW hcnd hsz0 _
  have hsz : (DataW.weightsEach Try.prog (Try.f6.params.toList ++ Rows.gridGrowsSpec.plain.varTypes Try.prog) (ds ++ gs)).all (· ≤ reachBytes) = true := hsz0
  have hval : ∀ (j : Nat) t v, Try.f6.params[j]? = some t → args[j]? = some v → Value.okWide Try.prog W .any base t v := hval0
  have hW' := hW
  obtain ⟨p, q, hA0, hV, rfl, hfz, hnd⟩ := hW
  have hA : DataW.TrodAll enc Try.prog W 0 (fun _ => true) true Try.f6.params.toList args.toList ds p := hA0
  rw [Try.params6] at hA hval hsz
  obtain ⟨v0, vs0, d0, ds0, p0, q0, hargs, rfl, rfl, h0, r0⟩ := trodAll_cons hA
  obtain ⟨v1, vs1, d1, ds1, p1, q1, rfl, rfl, rfl, h1, r1⟩ := trodAll_cons r0
  obtain ⟨rfl, rfl, rfl⟩ := trodAll_nil r1
  obtain rfl : args = #[v0, v1] := by cases args; simp_all
  obtain ⟨rfl, rfl⟩ := trodVars_none hV
  have k0 := h0
  have lt0 : ∀ x ∈ p0, x.block < W.heap.size := by obtain ⟨m, hm⟩ := k0; exact DataW.trod_lt m _ _ _ hm
  have k1 := h1
  have lt1 : ∀ x ∈ p1, x.block < W.heap.size := by obtain ⟨m, hm⟩ := k1; exact DataW.trod_lt m _ _ _ hm
  obtain ⟨A0, c0, X, z, A2, c2, D, A3, c3, H', A4, c4, co, A5, c5, L, rfl, wz, ⟨x1, x2, x3⟩, ⟨e1, e2, e3, e4⟩, ⟨f1, f2, f3⟩, ⟨g1, g2, g3⟩, ⟨i1, i2, i3⟩⟩ := Sel.open_caseS (hval 0 33 v0 rfl rfl) h0 (fun m hm => by simpa using List.all_eq_true.1 hsz _ (DataW.weights_mem_each (j := 0) rfl rfl m hm))
  obtain ⟨A6, c6, M, rfl, m1, m2, m3⟩ := Sel.open_row_arg (k := .u64) Try.underlying44 Try.underlying45 (by kernel_rfl) (hval 1 44 v1 rfl rfl) h1
  clear hA0 hval0 hsz0 hsz
  have hfin : Calls Try.prog 6 #[.agg #[.slice A0 X.length c0, .int .i64 z, .slice A2 D.length c2, .slice A3 H'.length c3, .slice A4 co.length c4, .slice A5 L.length c5], .slice A6 M.length c6] W fun e W' => e = .returned (.bool true) ∧ Below W.heap.size W W' := by
    obtain ⟨k, hv, hh, hl⟩ := Pure.GridGrows X z D H' co L M e3.1 f3.1
    cases hv with
    | true => exact Wk.gridGrows_heavy k A0 c0 X z A2 c2 D A3 c3 H' A4 c4 co A5 c5 L A6 c6 M W x1 x2 e1 e2 f1 f2 g1 g2 i1 i2 m1 m2 hh
    | false => exact Wk.gridGrows_light k A0 c0 X z A2 c2 D A3 c3 H' A4 c4 co A5 c5 L A6 c6 M W x1 x2 e1 e2 f1 f2 g1 g2 i1 i2 m1 m2 hh (by have := e4; simp only [reachBytes] at this; omega) (fun m hm => by have := m3.2 m hm; simp only [Lit.wf, Bool.and_eq_true, decide_eq_true_eq] at this; have h0 := this.1; simp only [IntKind.min, IntKind.signed] at h0; simpa using h0) (hl rfl)
  refine hfin.mono fun e W' ⟨he, bel⟩ => ?_
  subst he
  exact ⟨_, rfl, _, _, _, [], _, [], hW', trodAll_mk1 (shut_bool Try.underlying4 _), (trodAll_cons_mk (Below.trod laidOut (by kernel_rfl) (of_decide_eq_true (by kernel_rfl)) k0 bel lt0) (trodAll_cons_mk (Below.trod laidOut (by kernel_rfl) (of_decide_eq_true (by kernel_rfl)) k1 bel lt1) trodAll_mk0)), rfl, bel.frame _, fun h => by cases h⟩
theorem over : Rows.gridGrowsRow.holds Try.pinned (OpenSpec.ofChange Rows.gridGrowsSpec) :=
  OpenClaim.holds_of_wide 6 Try.f6 rfl rfl rfl rfl rfl rfl rfl ⟨rfl, rfl, rfl, rfl, rfl⟩ rfl rfl rfl rfl rfl (by kernel_rfl) Try.func6 (by kernel_rfl)
    (of_decide_eq_true (by kernel_rfl)) (by unfold Func.isWrapper; first | (rw [if_pos (by decide +kernel)]; kernel_rfl) | (rw [if_neg (by decide +kernel)]; exact ⟨rfl, rfl⟩))
    (fun os started H enc _ => lifted os started H enc)
theorem proved : Rows.GridGrowsSaid := over
#print axioms proved
end Go.Proofs.Ytjbjofmcmjojlab.gridGrows
namespace Go.Proofs.Ytjbjofmcmjojlab
theorem gridGrows_holds : Rows.GridGrowsSaid := gridGrows.proved
end Go.Proofs.Ytjbjofmcmjojlab
end
