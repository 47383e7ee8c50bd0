-- Texts that the row PathLast leans on, joined by wip/tools/mkclaim.py: QRangeMem, QAppendIn, Shelf, QRangeStop, HSeq, HAs, HPlain, HIx, HIxb, HName, HParse, HParsb, HJoin, HSplit, HSplitb, Wk0, Wk31, Wk32, Wk42, Wk43, Wk14, Wk45, Wk46, Wk48, Wk55, Plain17, Plain17b, Wk13, Wk44, Wk47
import Derived.Test.YtbmginkdlcpnpaaDoorCPathLast0
import Derived.RangeFuncNested
import Derived.RangeFuncBound
import Derived.RangeFuncCalls
import Derived.RangeFuncLeaves
import Derived.WalkKit
import Derived.OwnWalkIn
import Derived.Maps.AppendAt
import Derived.Shelf.Strings.Builder1
import Derived.Shelf.Strings.Builder2
import Derived.Shelf.Strings.OnBuilder
import Derived.Shelf.Small.Utf8
import Derived.Shelf.Small.Strs
import Derived.Shelf.Strings.BuilderF
import Derived.Shelf.Strings.BuilderK
import Derived.Shelf.Strings.Builder2Cap
import Derived.Shelf.Strings.Search1
import Derived.Shelf.Strings.Search2
import Derived.Shelf.Strings.Search3
import Derived.Shelf.LaysM
import Derived.Shelf.Strings.Shaped
import Derived.Shelf.Strings.Prefix
import Derived.Shelf.Unicode.Decode
import Derived.Shelf.Strings.Runes
import Derived.Shelf.Strings.IndexAny
import Derived.Shelf.Strings.AsciiSet
import Derived.Shelf.Strings.IndexAnyAll
import Derived.Shelf.Unicode.DecodeSlow
import Derived.Shelf.Unicode.DecodeAny
import Derived.Test.YtbmginkdlcpnpaaDoorProg
import Derived.Below
import Derived.Deep.Draws
import Derived.Deep.AppendLies
import Derived.OwnWalk
import Derived.Laws.BytesArg
import Derived.Laws.MakeOwn
import Derived.Laws.OwnMore
import Derived.Deep.OwnRows
import Derived.Tactics
import Derived.Lib.ConvBytes
import Derived.Laws.Slices
import Derived.KernelRfl
import Derived.RowKit3
import Derived.Deep.LoopGhost
import Derived.Deep.QuietTactic
import Derived.BigQuiet
import Derived.WideLaws
import Derived.Deep.DeepCutAuto
import Derived.Deep.CutBlock
import Derived.Deep.RegionHeld3
import Derived.Laws.Rows
import Derived.Lib.AppendStr
import Derived.ArgAppend
import Derived.Laws.IdiomCopy
import Derived.OrdersHeld
import Derived.Laws.BitsLemmas
import Derived.RowKit
import Derived.WalkSpells
import Derived.Sort.LoopGhostIn
import Derived.Sort.CutIn
import Derived.Shelf.Abstract
import Derived.Shelf.RegionOpen
import Derived.TacticsInMore
import Derived.LoopNIn
import Derived.LoopIn
import Derived.LaidEql
import Derived.Stop.Asserts
import Derived.RowKitTokens
section
namespace Go.Proofs.YtbmginkdlcpnpaaDoorQ
open Go Go.RowKit
structure SameOn (S : Nat → Prop) (A B : World) : Prop where
  size : A.heap.size ≤ B.heap.size
  same : ∀ k, S k → k < A.heap.size → B.heap[k]? = A.heap[k]?
  os : B.os = A.os
  tape : B.tape = A.tape
  output : B.output = A.output
theorem SameOn.refl (S : Nat → Prop) (A : World) : SameOn S A A := ⟨Nat.le_refl _, fun _ _ _ => rfl, rfl, rfl, rfl⟩
theorem SameOn.trans {S : Nat → Prop} {A B C : World} (h : SameOn S A B) (g : SameOn S B C) : SameOn S A C :=
  ⟨Nat.le_trans h.1 g.1, fun k hk hl => (g.2 k hk (Nat.lt_of_lt_of_le hl h.1)).trans (h.2 k hk hl), g.os.trans h.os, g.tape.trans h.tape, g.output.trans h.output⟩
theorem SameOn.mono {S T : Nat → Prop} {A B : World} (h : SameOn S A B) (hs : ∀ k, T k → S k) : SameOn T A B := ⟨h.1, fun k hk hl => h.2 k (hs k hk) hl, h.os, h.tape, h.output⟩
theorem SameOn.putObj {S : Nat → Prop} (A : World) (l : Nat) (o : Obj) (h : ¬ S l) : SameOn S A (A.putObj l o) :=
  ⟨by simp, fun k hk _ => World.putObj_heap_other (fun e => h (e ▸ hk)), rfl, rfl, rfl⟩
theorem SameOn.of_below {S : Nat → Prop} {A B : World} (h : Below A.heap.size A B) : SameOn S A B := ⟨h.size, fun k _ hl => h.block k hl, h.os, h.tape, h.output⟩
theorem SameOn.alloc (S : Nat → Prop) (A : World) (o : Obj) : SameOn S A (A.alloc o) := SameOn.of_below ((Below.refl _ _).alloc (Nat.le_refl _) o)
theorem SameOn.setCell {S : Nat → Prop} (A : World) (a : Addr) (v : Value) (h : ¬ S a.block) : SameOn S A (A.setCell a v) :=
  have hb : Below 0 A (A.setCell a v) := (Below.refl 0 A).setCell (Nat.zero_le _) v
  ⟨hb.size, fun k hk _ => Below.heap_setCell A a v k (fun e => h (e ▸ hk)), hb.os, hb.tape, hb.output⟩
theorem SameOn.drew (S : Nat → Prop) (A : World) : SameOn S A A.drew := SameOn.of_below (Below.refl _ A).drew
theorem SameOn.of_grown {S : Nat → Prop} {A B : World} {row : Option Nat} {b : Nat} (h : A.grownBy B row) (hb : Below b A B) (hr : ∀ k, row = some k → ¬ S k) : SameOn S A B :=
  ⟨h.size, fun k hk hl => h.block k hl (fun e => hr k e.symm hk), hb.os, hb.tape, hb.output⟩
theorem SameOn.below {S : Nat → Prop} {A B : World} {b : Nat} (h : SameOn S A B) (hS : ∀ k, k < b → S k) (hb : b ≤ A.heap.size) : Below b A B :=
  ⟨h.os, h.tape, h.output, h.size, fun k hk => h.same k (hS k hk) (Nat.lt_of_lt_of_le hk hb)⟩
structure Bears {α : Type} (S0 : Nat → Prop) (J : (Nat → Prop) → List α → World → Prop) : Prop where
  step : ∀ S pre A B, J S pre A → SameOn (fun k => ¬ S k ∨ S0 k) A B → J S pre B
  more : ∀ (S T : Nat → Prop) pre A, J S pre A → (∀ k, T k → A.heap.size ≤ k) → J (fun k => S k ∨ T k) pre A
def Hands {α : Type} (P : Program) (g : Nat) (lb : Array Value) (Rd : α → Value → World → Prop) (xs : List α) (S0 : Nat → Prop) (w : World) : Prop :=
  ∀ (l n : Nat) (J : (Nat → Prop) → List α → World → Prop) (W : World), SameOn S0 w W → Bears S0 J →
    (∀ (S : Nat → Prop) pre x v A, J S pre A → (∀ k, S0 k → S k) → (∀ k, S k → k < A.heap.size) → (pre ++ [x]) <+: xs → Rd x v A →
      YieldAt Fence.wide (n - 1) P l #[v] A fun e W' => e = .returned (.bool true) ∧ J S (pre ++ [x]) W' ∧ SameOn S A W') →
    J S0 [] W →
    CallsIn Fence.wide n P g (#[.func (.yield l) #[] #[]] ++ lb) W fun e W' => (∃ v, e = .returned v) ∧ ∃ S, J S xs W'
variable {P : Program}
def roundOn {α : Type} (I : (Nat → Prop) → List α → World → Prop) (S : Nat → Prop) (pre : List α) (W : World) : Exit → Act → World → Prop
  | .normal, _, W' => KeepsOthers W W' ∧ I S pre W' ∧ SameOn S W W'
  | _, _, _ => False
end Go.Proofs.YtbmginkdlcpnpaaDoorQ
end
section
namespace Go.Proofs.YtbmginkdlcpnpaaDoorQ
open Go
theorem wpListIn_append_at {F : Fence} {n : Nat} {P : Program} (w : World) {ops : Array Oper} {rest : List Oper} {o : Oper} {a : Act} {Q : Exit → Act → World → Prop}
    (hg : o.guard = none) (s x : Operand) (t : TypeId) (hop : o.op = Op.call { callee := Callee.builtin Builtin.append, args := #[s, x], argTypes := #[t, t] })
    (base : Nat) (e : TypeId) (i : TypeInfo) (z : Value) (size bytes : Nat) (h1 : P.underlying t = some (.slice e)) (h2 : P.info? e = some i) (h3 : i.zero = some z) (h4 : i.size = size) (h5 : i.bytes = bytes) (h6 : z.cells.size = size) (h7 : 0 < size)
    (v : Value) (k : Nat) (xs : List Value) (hs : a.eval s = v) (hown : w.ownsRow base e size v k xs) (ad : Addr) (m c : Nat) (news : List Value) (hx : a.eval x = .slice (some ad) m c) (hn : news.length = m * size)
    (hc : ∀ j u, news[j]? = some u → w.cell? (ad.add j) = some u) (h1c : ∀ u ∈ news, u.oneCell' = true) (b1 : k + m ≤ maxLen) (b2 : (k + m) * bytes ≤ 140737488355328) (b3 : base ≤ w.heap.size)
    (hK : ∀ v' w', w'.ownsRow base e size v' (k + m) (xs ++ news) → w.grownBy w' v.ownBlock → (v'.ownBlock = v.ownBlock ∨ v'.ownBlock = some w.heap.size) → wpListIn F n P ops Q rest (a.put o.dst v') w') :
    wpListIn F n P ops Q (o :: rest) a w := by
  refine wpListIn_plain hg fun K hK' => ?_
  obtain ⟨v', w', hrun, r1, r2, _, r3⟩ := run_append_own_at (P := P) w base t o.type e i z size bytes h1 h2 h3 h4 h5 h6 h7 v k xs hown ad m c news hn hc h1c b1 b2 b3
  unfold Oper.wpIn
  refine ⟨?_, ?_⟩
  · simp [Oper.about, hop, resolve, Target.leads, Sem.run_pure]
  · rw [Oper.semAt_plain F _ _ (by rw [hop]; intro c hc'; cases hc')]
    simp [execOp, hop, resolve, invoke, builtin, hs, hx, hrun, Result.andThen]
    exact hK' _ _ (hK v' w' r1 r2 r3)
end Go.Proofs.YtbmginkdlcpnpaaDoorQ
end
section
namespace Go.Proofs
open Go.Shelf
def Tryd.lays169_ren : Go.Shelf.Ren := ⟨fun | 169 => 46 | n => n, fun | 70 => 85 | 9 => 9 | 0 => 0 | 72 => 88 | 37 => 86 | 127 => 115 | 3 => 3 | 5 => 5 | n => n, fun | n => n⟩
def Tryd.lays241_ren : Go.Shelf.Ren := ⟨fun | 241 => 55 | 277 => 61 | n => n, fun | 70 => 85 | 3 => 3 | 0 => 0 | 72 => 88 | 37 => 86 | 5 => 5 | n => n, fun | n => n⟩
def Tryd.lays165_ren : Go.Shelf.Ren := ⟨fun | 165 => 44 | 240 => 54 | 241 => 55 | 276 => 60 | 277 => 61 | n => n, fun | 70 => 85 | 3 => 3 | 0 => 0 | 4 => 4 | 9 => 9 | 20 => 20 | 72 => 88 | 37 => 86 | 164 => 75 | 5 => 5 | n => n, fun | n => n⟩
def Tryd.lays156_ren : Go.Shelf.Ren := ⟨fun | 156 => 31 | 165 => 44 | 166 => 45 | 169 => 46 | 240 => 54 | 241 => 55 | 276 => 60 | 277 => 61 | n => n, fun | 31 => 24 | 9 => 9 | 3 => 3 | 4 => 4 | 0 => 0 | 20 => 20 | 72 => 88 | 76 => 90 | 70 => 85 | 37 => 86 | 75 => 43 | 127 => 115 | 164 => 75 | 5 => 5 | 80 => 92 | n => n, fun | n => n⟩
theorem Tryd.lays156 : Go.Proofs.Lays.n156 Tryd.prog Tryd.lays156_ren := {
  mixed := by kernel_rfl
  f156 := Tryd.func31.trans (congrArg some (by kernel_rfl))
  f165 := Tryd.func44.trans (congrArg some (by kernel_rfl))
  f166 := Tryd.func45.trans (congrArg some (by kernel_rfl))
  f169 := Tryd.func46.trans (congrArg some (by kernel_rfl))
  f240 := Tryd.func54.trans (congrArg some (by kernel_rfl))
  f241 := Tryd.func55.trans (congrArg some (by kernel_rfl))
  f276 := Tryd.func60.trans (congrArg some (by kernel_rfl))
  f277 := Tryd.func61.trans (congrArg some (by kernel_rfl))
  t0 := Tryd.underlying0
  a0 := Tryd.isAgg0
  z0 := Tryd.sizeOf0
  v0 := Tryd.zeroValue0
  t3 := Tryd.underlying3
  a3 := Tryd.isAgg3
  z3 := Tryd.sizeOf3
  v3 := Tryd.zeroValue3
  t4 := Tryd.underlying4
  a4 := Tryd.isAgg4
  z4 := Tryd.sizeOf4
  v4 := Tryd.zeroValue4
  t9 := Tryd.underlying9
  a9 := Tryd.isAgg9
  z9 := Tryd.sizeOf9
  v9 := Tryd.zeroValue9
  t20 := Tryd.underlying20
  a20 := Tryd.isAgg20
  z20 := Tryd.sizeOf20
  v20 := Tryd.zeroValue20
  t31 := Tryd.underlying24
  a31 := Tryd.isAgg24
  z31 := Tryd.sizeOf24
  v31 := Tryd.zeroValue24
  t37 := Tryd.underlying86
  a37 := Tryd.isAgg86
  z37 := Tryd.sizeOf86
  v37 := Tryd.zeroValue86
  t70 := Tryd.underlying85
  a70 := Tryd.isAgg85
  z70 := Tryd.sizeOf85
  v70 := Tryd.zeroValue85
  t72 := Tryd.underlying88
  a72 := Tryd.isAgg88
  z72 := Tryd.sizeOf88
  v72 := Tryd.zeroValue88
  t75 := Tryd.underlying43
  a75 := Tryd.isAgg43
  z75 := Tryd.sizeOf43
  v75 := Tryd.zeroValue43
  t76 := Tryd.underlying90
  a76 := Tryd.isAgg90
  z76 := Tryd.sizeOf90
  v76 := Tryd.zeroValue90
  t127 := Tryd.underlying115
  a127 := Tryd.isAgg115
  z127 := Tryd.sizeOf115
  v127 := Tryd.zeroValue115
  t164 := Tryd.underlying75
  a164 := Tryd.isAgg75
  z164 := Tryd.sizeOf75
  v164 := Tryd.zeroValue75 }
theorem Tryd.Builder_Extra_156 : Builder.Extra Tryd.prog Tryd.lays156_ren := {
  sizeBuilder := by kernel_rfl
  liesBuilder := by kernel_rfl
  t5 := Tryd.underlying5
  a5 := Tryd.isAgg5
  z5 := Tryd.sizeOf5
  v5 := Tryd.zeroValue5
  infoByte := by kernel_rfl
  cellsByte := by kernel_rfl
  sizeByte := by kernel_rfl
  neB5 := by decide }
open Go.RowKit in
theorem Tryd.strings_Join_none (a : Option Addr) (c : Nat) (sep : ByteArray) (w : World) :
    Calls Tryd.prog 31 #[.slice a 0 c, .string sep] w fun e w' => e = .returned (.string ⟨#[]⟩) ∧ w' = w := Any.strings_Join_none Tryd.lays156 Tryd.Builder_Extra_156 a c sep w
open Go.RowKit in
theorem Tryd.strings_Join (bk o c : Nat) (xs : List ByteArray) (sep : ByteArray) (w : World) (hcells : ∀ (j : Nat) x, xs[j]? = some x → w.cell? ⟨bk, o + j, none⟩ = some (.string x)) (hbk : bk < w.heap.size) (hN : xs.length ≤ 140737488355328) (hcap : xs.length ≤ c) (hlen : (Lib.join (xs.map (·.data.toList)) sep.data.toList).length ≤ 140737488355328) :
    Calls Tryd.prog 31 #[.slice (some ⟨bk, o, none⟩) xs.length c, .string sep] w fun e w' => e = .returned (.string ⟨(Lib.join (xs.map (·.data.toList)) sep.data.toList).toArray⟩) ∧ Below w.heap.size w w' := Any.strings_Join Tryd.lays156 Tryd.Builder_Extra_156 bk o c xs sep w hcells hbk hN hcap hlen
def Tryd.lays119_ren : Go.Shelf.Ren := ⟨fun | 119 => 48 | n => n, fun | 21 => 21 | 4 => 4 | n => n, fun | n => n⟩
theorem Tryd.lays119 : Go.Proofs.Lays.n119 Tryd.prog Tryd.lays119_ren := {
  mixed := by kernel_rfl
  f119 := Tryd.func48.trans (congrArg some (by kernel_rfl))
  t4 := Tryd.underlying4
  a4 := Tryd.isAgg4
  z4 := Tryd.sizeOf4
  v4 := Tryd.zeroValue4
  t21 := Tryd.underlying21
  a21 := Tryd.isAgg21
  z21 := Tryd.sizeOf21
  v21 := Tryd.zeroValue21 }
theorem Tryd.utf8_ValidRune (r : Int) (w : World) :
    Calls Tryd.prog 48 #[.int .i32 r] w fun e w' => e = .returned (.bool (Lib.validRune r)) ∧ w' = w := Any.utf8_ValidRune Tryd.lays119 r w
def Tryd.lays137_ren : Go.Shelf.Ren := ⟨fun | 137 => 47 | 217 => 56 | 266 => 62 | n => n, fun | 9 => 9 | 5 => 5 | 3 => 3 | n => n, fun | n => n⟩
theorem Tryd.lays137 : Go.Proofs.Lays.n137 Tryd.prog Tryd.lays137_ren := {
  mixed := by kernel_rfl
  f137 := Tryd.func47.trans (congrArg some (by kernel_rfl))
  f217 := Tryd.func56.trans (congrArg some (by kernel_rfl))
  f266 := Tryd.func62.trans (congrArg some (by kernel_rfl))
  t3 := Tryd.underlying3
  a3 := Tryd.isAgg3
  z3 := Tryd.sizeOf3
  v3 := Tryd.zeroValue3
  t5 := Tryd.underlying5
  a5 := Tryd.isAgg5
  z5 := Tryd.sizeOf5
  v5 := Tryd.zeroValue5
  t9 := Tryd.underlying9
  a9 := Tryd.isAgg9
  z9 := Tryd.sizeOf9
  v9 := Tryd.zeroValue9 }
open Go.RowKit in
theorem Tryd.strings_IndexByte (s : ByteArray) (c : Int) (w : World) :
    Calls Tryd.prog 47 #[.string s, .int .u8 c] w fun e w' => e = .returned (.int .i64 (Lib.indexByte s.data.toList c.toNat.toUInt8)) ∧ w' = w := Any.strings_IndexByte Tryd.lays137 s c w
def Tryd.lays217_ren : Go.Shelf.Ren := ⟨fun | 217 => 56 | 266 => 62 | n => n, fun | 9 => 9 | 5 => 5 | 3 => 3 | n => n, fun | n => n⟩
def Tryd.lays224_ren : Go.Shelf.Ren := ⟨fun | 224 => 49 | n => n, fun | 3 => 3 | n => n, fun | n => n⟩
def Tryd.lays314_ren : Go.Shelf.Ren := ⟨fun | 314 => 66 | n => n, fun | 9 => 9 | 51 => 124 | 3 => 3 | 4 => 4 | 5 => 5 | 46 => 107 | n => n, fun | n => n⟩
def Tryd.lays267_ren : Go.Shelf.Ren := ⟨fun | 267 => 65 | 314 => 66 | n => n, fun | 9 => 9 | 3 => 3 | 146 => 125 | 51 => 124 | 4 => 4 | 5 => 5 | 46 => 107 | n => n, fun | n => n⟩
def Tryd.lays219_ren : Go.Shelf.Ren := ⟨fun | 219 => 64 | 217 => 56 | 225 => 50 | 224 => 49 | 267 => 65 | 266 => 62 | 314 => 66 | n => n, fun | 9 => 9 | 3 => 3 | 4 => 4 | 5 => 5 | 46 => 107 | 146 => 125 | 51 => 124 | n => n, fun | 1 => 1 | n => n⟩
def Tryd.lays143_ren : Go.Shelf.Ren := ⟨fun | 143 => 59 | 219 => 64 | 217 => 56 | 225 => 50 | 224 => 49 | 267 => 65 | 266 => 62 | 314 => 66 | n => n, fun | 9 => 9 | 3 => 3 | 4 => 4 | 5 => 5 | 46 => 107 | 146 => 125 | 51 => 124 | n => n, fun | 1 => 1 | n => n⟩
theorem Tryd.lays143 : Go.Proofs.Lays.n143 Tryd.prog Tryd.lays143_ren := {
  mixed := by kernel_rfl
  f143 := Tryd.func59.trans (congrArg some (by kernel_rfl))
  f217 := Tryd.func56.trans (congrArg some (by kernel_rfl))
  f219 := Tryd.func64.trans (congrArg some (by kernel_rfl))
  f224 := Tryd.func49.trans (congrArg some (by kernel_rfl))
  f225 := Tryd.func50.trans (congrArg some (by kernel_rfl))
  f266 := Tryd.func62.trans (congrArg some (by kernel_rfl))
  f267 := Tryd.func65.trans (congrArg some (by kernel_rfl))
  f314 := Tryd.func66.trans (congrArg some (by kernel_rfl))
  t3 := Tryd.underlying3
  a3 := Tryd.isAgg3
  z3 := Tryd.sizeOf3
  v3 := Tryd.zeroValue3
  t4 := Tryd.underlying4
  a4 := Tryd.isAgg4
  z4 := Tryd.sizeOf4
  v4 := Tryd.zeroValue4
  t5 := Tryd.underlying5
  a5 := Tryd.isAgg5
  z5 := Tryd.sizeOf5
  v5 := Tryd.zeroValue5
  t9 := Tryd.underlying9
  a9 := Tryd.isAgg9
  z9 := Tryd.sizeOf9
  v9 := Tryd.zeroValue9
  t46 := Tryd.underlying107
  a46 := Tryd.isAgg107
  z46 := Tryd.sizeOf107
  v46 := Tryd.zeroValue107
  t51 := Tryd.underlying124
  a51 := Tryd.isAgg124
  z51 := Tryd.sizeOf124
  v51 := Tryd.zeroValue124
  t146 := Tryd.underlying125
  a146 := Tryd.isAgg125
  z146 := Tryd.sizeOf125
  v146 := Tryd.zeroValue125
  g1 := by kernel_rfl }
open Go.RowKit Go.Lib in
theorem Tryd.strings_Index_one (s : ByteArray) (c : UInt8) (w : World) :
    Calls Tryd.prog 59 #[.string s, .string ⟨#[c]⟩] w fun e w' => e = .returned (.int .i64 (Lib.indexByte s.data.toList c)) ∧ w' = w := Any.strings_Index_one Tryd.lays143 s c w
def Tryd.laysM219_ren : Go.Shelf.Ren := ⟨fun | 219 => 64 | 217 => 56 | 225 => 50 | 224 => 49 | 267 => 65 | 266 => 62 | 314 => 66 | n => n, fun | 9 => 9 | 3 => 3 | 4 => 4 | 5 => 5 | 46 => 107 | 146 => 125 | 51 => 124 | n => n, fun | 1 => 1 | n => n⟩
def Tryd.laysM143_ren : Go.Shelf.Ren := ⟨fun | 143 => 59 | 219 => 64 | 217 => 56 | 225 => 50 | 224 => 49 | 267 => 65 | 266 => 62 | 314 => 66 | n => n, fun | 9 => 9 | 3 => 3 | 4 => 4 | 5 => 5 | 46 => 107 | 146 => 125 | 51 => 124 | n => n, fun | 1 => 1 | n => n⟩
def Tryd.lays206_ren : Go.Shelf.Ren := ⟨fun | 206 => 38 | n => n, fun | 9 => 9 | 4 => 4 | 3 => 3 | n => n, fun | n => n⟩
def Tryd.lays99_ren : Go.Shelf.Ren := ⟨fun | 99 => 28 | 206 => 38 | n => n, fun | 9 => 9 | 4 => 4 | 3 => 3 | n => n, fun | n => n⟩
theorem Tryd.lays99 : Go.Proofs.Lays.n99 Tryd.prog Tryd.lays99_ren := {
  mixed := by kernel_rfl
  f99 := Tryd.func28.trans (congrArg some (by kernel_rfl))
  f206 := Tryd.func38.trans (congrArg some (by kernel_rfl))
  t3 := Tryd.underlying3
  a3 := Tryd.isAgg3
  z3 := Tryd.sizeOf3
  v3 := Tryd.zeroValue3
  t4 := Tryd.underlying4
  a4 := Tryd.isAgg4
  z4 := Tryd.sizeOf4
  v4 := Tryd.zeroValue4
  t9 := Tryd.underlying9
  a9 := Tryd.isAgg9
  z9 := Tryd.sizeOf9
  v9 := Tryd.zeroValue9 }
open Go.RowKit Go.Lib in
theorem Tryd.strings_HasPrefix (s p : ByteArray) (w : World) :
    Calls Tryd.prog 28 #[.string s, .string p] w fun e w' => e = .returned (.bool (Lib.hasPrefix s.data.toList p.data.toList)) ∧ w' = w := Any.strings_HasPrefix Tryd.lays99 s p w
def Tryd.lays197_ren : Go.Shelf.Ren := ⟨fun | 197 => 58 | 260 => 63 | n => n, fun | 9 => 9 | 21 => 21 | 3 => 3 | 4 => 4 | 5 => 5 | 105 => 116 | 119 => 120 | 0 => 0 | 46 => 107 | 139 => 123 | 138 => 122 | n => n, fun | 3 => 2 | 4 => 3 | n => n⟩
def Tryd.lays152_ren : Go.Shelf.Ren := ⟨fun | 152 => 34 | 137 => 47 | 119 => 48 | 224 => 49 | 225 => 50 | 217 => 56 | 266 => 62 | n => n, fun | 9 => 9 | 21 => 21 | 3 => 3 | 4 => 4 | 5 => 5 | 0 => 0 | 46 => 107 | n => n, fun | n => n⟩
theorem Tryd.lays152 : Go.Proofs.Lays.n152 Tryd.prog Tryd.lays152_ren := {
  mixed := by kernel_rfl
  f119 := Tryd.func48.trans (congrArg some (by kernel_rfl))
  f137 := Tryd.func47.trans (congrArg some (by kernel_rfl))
  f152 := Tryd.func34.trans (congrArg some (by kernel_rfl))
  f217 := Tryd.func56.trans (congrArg some (by kernel_rfl))
  f224 := Tryd.func49.trans (congrArg some (by kernel_rfl))
  f225 := Tryd.func50.trans (congrArg some (by kernel_rfl))
  f266 := Tryd.func62.trans (congrArg some (by kernel_rfl))
  t0 := Tryd.underlying0
  a0 := Tryd.isAgg0
  z0 := Tryd.sizeOf0
  v0 := Tryd.zeroValue0
  t3 := Tryd.underlying3
  a3 := Tryd.isAgg3
  z3 := Tryd.sizeOf3
  v3 := Tryd.zeroValue3
  t4 := Tryd.underlying4
  a4 := Tryd.isAgg4
  z4 := Tryd.sizeOf4
  v4 := Tryd.zeroValue4
  t5 := Tryd.underlying5
  a5 := Tryd.isAgg5
  z5 := Tryd.sizeOf5
  v5 := Tryd.zeroValue5
  t9 := Tryd.underlying9
  a9 := Tryd.isAgg9
  z9 := Tryd.sizeOf9
  v9 := Tryd.zeroValue9
  t21 := Tryd.underlying21
  a21 := Tryd.isAgg21
  z21 := Tryd.sizeOf21
  v21 := Tryd.zeroValue21
  t46 := Tryd.underlying107
  a46 := Tryd.isAgg107
  z46 := Tryd.sizeOf107
  v46 := Tryd.zeroValue107 }
open Go.RowKit Go.Lib in
theorem Tryd.strings_IndexRune_ascii (s : ByteArray) (r : Int) (w : World) (h0 : 0 ≤ r) (h1 : r < 128) :
    Calls Tryd.prog 34 #[.string s, .int .i32 r] w fun e w' => e = .returned (.int .i64 (Lib.indexByte s.data.toList r.toNat.toUInt8)) ∧ w' = w := Any.strings_IndexRune_ascii Tryd.lays152 s r w h0 h1
def Tryd.lays226_ren : Go.Shelf.Ren := ⟨fun | 226 => 35 | n => n, fun | 3 => 3 | 4 => 4 | n => n, fun | n => n⟩
theorem Tryd.lays226 : Go.Proofs.Lays.n226 Tryd.prog Tryd.lays226_ren := {
  mixed := by kernel_rfl
  f226 := Tryd.func35.trans (congrArg some (by kernel_rfl))
  t3 := Tryd.underlying3
  a3 := Tryd.isAgg3
  z3 := Tryd.sizeOf3
  v3 := Tryd.zeroValue3
  t4 := Tryd.underlying4
  a4 := Tryd.isAgg4
  z4 := Tryd.sizeOf4
  v4 := Tryd.zeroValue4 }
open Go.RowKit Go.Lib in
theorem Tryd.strings_shouldUseASCIISet (n : Int) (w : World) :
    Calls Tryd.prog 35 #[.int .i64 n] w fun e w' => e = .returned (.bool (decide (8 < n))) ∧ w' = w := Any.strings_shouldUseASCIISet Tryd.lays226 n w
def Tryd.lays153_ren : Go.Shelf.Ren := ⟨fun | 153 => 27 | 152 => 34 | 226 => 35 | 227 => 36 | 228 => 37 | 137 => 47 | 119 => 48 | 224 => 49 | 225 => 50 | 217 => 56 | 266 => 62 | n => n, fun | 9 => 9 | 3 => 3 | 4 => 4 | 5 => 5 | 21 => 21 | 117 => 71 | 116 => 70 | 0 => 0 | 46 => 107 | 124 => 108 | n => n, fun | n => n⟩
theorem Tryd.lays153 : Go.Proofs.Lays.n153 Tryd.prog Tryd.lays153_ren := {
  mixed := by kernel_rfl
  f119 := Tryd.func48.trans (congrArg some (by kernel_rfl))
  f137 := Tryd.func47.trans (congrArg some (by kernel_rfl))
  f152 := Tryd.func34.trans (congrArg some (by kernel_rfl))
  f153 := Tryd.func27.trans (congrArg some (by kernel_rfl))
  f217 := Tryd.func56.trans (congrArg some (by kernel_rfl))
  f224 := Tryd.func49.trans (congrArg some (by kernel_rfl))
  f225 := Tryd.func50.trans (congrArg some (by kernel_rfl))
  f226 := Tryd.func35.trans (congrArg some (by kernel_rfl))
  f227 := Tryd.func36.trans (congrArg some (by kernel_rfl))
  f228 := Tryd.func37.trans (congrArg some (by kernel_rfl))
  f266 := Tryd.func62.trans (congrArg some (by kernel_rfl))
  t0 := Tryd.underlying0
  a0 := Tryd.isAgg0
  z0 := Tryd.sizeOf0
  v0 := Tryd.zeroValue0
  t3 := Tryd.underlying3
  a3 := Tryd.isAgg3
  z3 := Tryd.sizeOf3
  v3 := Tryd.zeroValue3
  t4 := Tryd.underlying4
  a4 := Tryd.isAgg4
  z4 := Tryd.sizeOf4
  v4 := Tryd.zeroValue4
  t5 := Tryd.underlying5
  a5 := Tryd.isAgg5
  z5 := Tryd.sizeOf5
  v5 := Tryd.zeroValue5
  t9 := Tryd.underlying9
  a9 := Tryd.isAgg9
  z9 := Tryd.sizeOf9
  v9 := Tryd.zeroValue9
  t21 := Tryd.underlying21
  a21 := Tryd.isAgg21
  z21 := Tryd.sizeOf21
  v21 := Tryd.zeroValue21
  t46 := Tryd.underlying107
  a46 := Tryd.isAgg107
  z46 := Tryd.sizeOf107
  v46 := Tryd.zeroValue107
  t116 := Tryd.underlying70
  a116 := Tryd.isAgg70
  z116 := Tryd.sizeOf70
  t117 := Tryd.underlying71
  a117 := Tryd.isAgg71
  z117 := Tryd.sizeOf71
  v117 := Tryd.zeroValue71
  t124 := Tryd.underlying108
  a124 := Tryd.isAgg108
  z124 := Tryd.sizeOf108
  v124 := Tryd.zeroValue108 }
def Tryd.lays227_ren : Go.Shelf.Ren := ⟨fun | 227 => 36 | n => n, fun | 9 => 9 | 116 => 70 | 4 => 4 | 0 => 0 | 3 => 3 | 5 => 5 | n => n, fun | n => n⟩
def Tryd.lays228_ren : Go.Shelf.Ren := ⟨fun | 228 => 37 | n => n, fun | 124 => 108 | 5 => 5 | 4 => 4 | 0 => 0 | 116 => 70 | n => n, fun | n => n⟩
open Go.RowKit Go.Lib in
theorem Tryd.strings_IndexAny_long (hv116 : ∀ w, (zeroValue 70).run Tryd.prog w = .ok (.agg (Array.replicate 256 (.bool false))) w) (s chars : ByteArray) (w : World) (h2 : 2 ≤ chars.size) (h8 : 8 < s.size) (hs : s.size < 4294967281) (hcs : chars.size < 4294967281) (hascii : ∀ (j : Nat) b, chars.data.toList[j]? = some b → b.toNat < 128) :
    Calls Tryd.prog 27 #[.string s, .string chars] w fun e w' => e = .returned (.int .i64 (Lib.indexAny s.data.toList chars.data.toList)) ∧ w' = ((w.alloc (.cells (Lib.setCells chars.data.toList) 70)).alloc (.cells (Lib.setCells chars.data.toList) 70)) := Any.strings_IndexAny_long Tryd.lays153 hv116 (by kernel_rfl) s chars w h2 h8 hs hcs hascii
def Tryd.lays150_ren : Go.Shelf.Ren := ⟨fun | 150 => 20 | 153 => 27 | 152 => 34 | 226 => 35 | 227 => 36 | 228 => 37 | 137 => 47 | 119 => 48 | 224 => 49 | 225 => 50 | 217 => 56 | 266 => 62 | n => n, fun | 9 => 9 | 4 => 4 | 3 => 3 | 5 => 5 | 21 => 21 | 117 => 71 | 116 => 70 | 0 => 0 | 46 => 107 | 124 => 108 | n => n, fun | n => n⟩
def Tryd.lays260_ren : Go.Shelf.Ren := ⟨fun | 260 => 63 | n => n, fun | 9 => 9 | 21 => 21 | 3 => 3 | 4 => 4 | 5 => 5 | 119 => 120 | 0 => 0 | 46 => 107 | 139 => 123 | 138 => 122 | n => n, fun | 3 => 2 | 4 => 3 | n => n⟩
end Go.Proofs
end
section
namespace Go.Proofs.YtbmginkdlcpnpaaDoorQ
open Go Go.RowKit
def HandsS {α : Type} (P : Program) (g : Nat) (lb : Array Value) (enc : α → Value) (xs : List α) (own lean : Nat → Prop) (w : World) : Prop :=
  ∀ (l n : Nat) (J Jx : List α → World → Prop) (W : World), SameOn lean w W → (∀ pre A B, J pre A → SameOn (fun k => ¬ own k) A B → J pre B) →
    (∀ pre x A, J pre A → (pre ++ [x]) <+: xs →
      YieldAt Fence.wide (n - 1) P l #[enc x] A fun e W' => (e = .returned (.bool true) ∧ J (pre ++ [x]) W' ∧ SameOn lean A W') ∨ (e = .returned (.bool false) ∧ Jx (pre ++ [x]) W')) →
    J [] W →
    CallsIn Fence.wide n P g (#[.func (.yield l) #[] #[]] ++ lb) W fun e W' => (∃ v, e = .returned v) ∧ (J xs W' ∨ ∃ pre, pre <+: xs ∧ Jx pre W')
variable {P : Program}
def roundStop {α : Type} (I Ix : List α → World → Prop) (lean : Nat → Prop) (pre : List α) (W : World) : Exit → Act → World → Prop
  | .normal, _, W' => KeepsOthers W W' ∧ I pre W' ∧ SameOn lean W W'
  | .ret, _, W' => KeepsOthers W W' ∧ Ix pre W'
  | _, _, _ => False
theorem wp_rangeStop {α : Type} {g : Operand} {p : Tmp} {assign body : Code} {Q : Exit → Act → World → Prop} {a : Act} {w : World}
    {gf : Nat} {lb : Array Value} (hg : a.eval g = .func (.func gf) #[] lb) (eg : ∀ args w, (callFunc gf args).run P w = .ok (.enter gf args) w)
    {enc : α → Value} {xs : List α} {own lean : Nat → Prop} (hseq : HandsS P gf lb enc xs own lean w) (hown : ∀ k, own k → k < w.heap.size) (hlean : ∀ k, lean k → k < w.heap.size)
    (I Ix : List α → World → Prop) (hI : ∀ pre A B, I pre A → SameOn (fun k => ¬ own k) A B → I pre B)
    (hIp : ∀ pre A (l : Nat) (o o' : Obj), I pre A → A.heap[l]? = some o → o.isCells = false → w.heap.size ≤ l → I pre (A.putObj l o'))
    (hIxp : ∀ pre A (l : Nat) (o o' : Obj), Ix pre A → A.heap[l]? = some o → o.isCells = false → w.heap.size ≤ l → Ix pre (A.putObj l o'))
    (h0 : I [] w) (a₁ : α → Act)
    (hassign : ∀ (l : Nat) (x : α) (W : World) (n : Nat) (K : Act → World → Prop), K (a₁ x) W →
      assign.wpIn (Fence.wide.inRound l) n P (Exit.then K (fun _ _ _ => False)) { tmps := ((#[p] : Array Tmp).zip #[enc x]).foldl (fun t (p, v) => t.setIfInBounds p v) a.tmps, defers := [] } W)
    (hbody : ∀ (l n : Nat) (pre : List α) (x : α) (W : World), I pre W → (pre ++ [x]) <+: xs → body.wpIn (Fence.wide.inRound l) n P (roundStop I Ix lean (pre ++ [x]) W) (a₁ x) W)
    (hdone : ∀ (D : Nat) (W : World), I xs W → w.heap.size ≤ D → W.heap[D]? = some (.deferred (some [])) → Q .normal { a with defers := { target := .collected D, args := #[] } :: a.defers } W)
    (hstop : ∀ (D : Nat) (pre : List α) (W : World), pre <+: xs → Ix pre W → w.heap.size ≤ D → W.heap[D]? = some (.deferred (some [])) → Code.ret.wp P Q { a with defers := { target := .collected D, args := #[] } :: a.defers } W) :
    (Code.rangeFunc g #[p] assign body).wp P Q a w := by
  refine (wpIn_wide (n := 0)).1 ?_
  refine wpIn_rangeFunc ?_
  intro fn hfn
  obtain ⟨rec, hrec⟩ : ∃ rec : LoopState → Option Code → Loop, rec = fun st pe => { state := st, pending := pe, fn, tmps := a.tmps, params := #[p], assign, body, defers := w.heap.size } := ⟨_, rfl⟩
  obtain ⟨W1, hW1⟩ : ∃ W1, (w.alloc (.deferred (some []))).alloc (.loop (rec .ready none)) = W1 := ⟨_, rfl⟩
  have hL1 : W1.heap[w.heap.size + 1]? = some (.loop (rec .ready none)) := by
    rw [← hW1]; have := World.alloc_heap_new (w.alloc (.deferred (some []))) (.loop (rec .ready none)); rwa [World.size_alloc] at this
  have hK1 : W1.heap[w.heap.size]? = some (.deferred (some [])) := by
    rw [← hW1]; exact (Below.heap_alloc _ _ _ (by simp)).trans (World.alloc_heap_new w _)
  have hs1 : ∀ S, SameOn S w W1 := fun S => by rw [← hW1]; exact (SameOn.alloc S _ _).trans (SameOn.alloc S _ _)
  have hI1 : I [] W1 := hI _ _ _ h0 (hs1 _)
  have hno1 : ∀ k, w.heap.size ≤ k → ¬ own k := fun k hk h => by have := hown _ h; omega
  have hnl1 : ∀ k, w.heap.size ≤ k → ¬ lean k := fun k hk h => by have := hlean _ h; omega
  refine ⟨w.heap.size + 1, [{ target := .collected w.heap.size, args := #[] }], W1, { target := .fn (.func gf) lb, args := #[.func (.yield (w.heap.size + 1)) #[] #[]] }, W1, gf,
    #[.func (.yield (w.heap.size + 1)) #[] #[]] ++ lb, W1, ?_, ?_, ?_, ?_, fun h => by simp [Fence.wide] at h, ?_⟩
  · rw [← hW1, hrec]; exact run_enterLoop_outer _ _ _ _ _
  · simp only [resolve, hg]
    simp [go_sem]
  · intro f' _; exact trivial
  · simp [invoke, go_sem, eg]
  · refine (hseq (w.heap.size + 1) (0 - 1)
      (fun pre W => I pre W ∧ W.heap[w.heap.size + 1]? = some (.loop (rec .ready none)) ∧ W.heap[w.heap.size]? = some (.deferred (some [])))
      (fun pre W => Ix pre W ∧ W.heap[w.heap.size + 1]? = some (.loop (rec .done (some .ret))) ∧ W.heap[w.heap.size]? = some (.deferred (some [])))
      W1 (hs1 _) ?_ ?_ ⟨hI1, hL1, hK1⟩).mono ?_
    · rintro pre A B ⟨hi, hl, hk⟩ hs
      exact ⟨hI _ _ _ hi hs, (hs.2 _ (hno1 _ (by omega)) (Array.getElem?_eq_some_iff.1 hl).1).trans hl, (hs.2 _ (hno1 _ (Nat.le_refl _)) (Array.getElem?_eq_some_iff.1 hk).1).trans hk⟩
    ·
      rintro pre x W ⟨hi, hl, hk⟩ hlen
      have hlt : w.heap.size + 1 < W.heap.size := (Array.getElem?_eq_some_iff.1 hl).1
      have hy := run_yield (P := P) (args := #[enc x]) hl (by rw [hrec]; rfl)
      rw [hrec] at hy
      refine ⟨fn, _, assign, body, hy, roundIn_of_wpIn hfn ?_⟩
      refine hassign (w.heap.size + 1) x W (0 - 1 - 1) _ ?_
      refine ⟨_, run_beginRound hl (by rw [hrec]), ?_⟩
      have hl2 : (W.putObj (w.heap.size + 1) (.loop { rec .ready none with state := .busy })).heap[w.heap.size + 1]? = some (.loop { rec .ready none with state := .busy }) := World.putObj_heap_same hlt
      have hk2 : (W.putObj (w.heap.size + 1) (.loop { rec .ready none with state := .busy })).heap[w.heap.size]? = some (.deferred (some [])) := (World.putObj_heap_other (by omega)).trans hk
      refine wpIn_mono (hbody _ _ pre x _ (hIp _ _ _ _ _ hi hl rfl (by omega)) hlen) ?_
      rintro e a3 W3 hp
      cases e with
      | normal =>
        obtain ⟨hk3, hi3, hs3⟩ := hp
        have hl3 := hk3.same _ _ hl2 rfl
        have hend := run_endRound (P := P) none hl3
        have hlt3 := (Array.getElem?_eq_some_iff.1 hl3).1
        refine ⟨_, _, hend, .inl ⟨rfl, ⟨hIp _ _ _ _ _ hi3 hl3 rfl (by omega), ?_, ?_⟩, ?_⟩⟩
        · rw [World.putObj_heap_same hlt3, hrec]; rfl
        · exact (World.putObj_heap_other (by omega)).trans (hk3.same _ _ hk2 rfl)
        · exact ((SameOn.putObj W _ _ (hnl1 _ (by omega))).trans hs3).trans (SameOn.putObj _ _ _ (hnl1 _ (by omega)))
      | ret =>
        obtain ⟨hk3, hi3⟩ := hp
        have hl3 := hk3.same _ _ hl2 rfl
        have hend := run_endRound (P := P) (some .ret) hl3
        have hlt3 := (Array.getElem?_eq_some_iff.1 hl3).1
        refine ⟨_, _, hend, .inr ⟨rfl, hIxp _ _ _ _ _ hi3 hl3 rfl (by omega), ?_, ?_⟩⟩
        · rw [World.putObj_heap_same hlt3, hrec]; rfl
        · exact (World.putObj_heap_other (by omega)).trans (hk3.same _ _ hk2 rfl)
      | exit id => exact hp.elim
      | goto t => exact hp.elim
      | panic ch => exact hp.elim
      | outgrown => exact hp.elim
    ·
      rintro e W2 ⟨⟨v, rfl⟩, ⟨hi, hl, hk⟩ | ⟨pre, hpre, hi, hl, hk⟩⟩
      · refine ⟨none, _, by have := run_endLoop (P := P) hl (by rw [hrec]; simp); rw [hrec] at this; exact this, ?_⟩
        exact hdone _ _ (hIp _ _ _ _ _ hi hl rfl (by omega)) (Nat.le_refl _) ((World.putObj_heap_other (by omega)).trans hk)
      · refine ⟨some .ret, _, by have := run_endLoop (P := P) hl (by rw [hrec]; simp); rw [hrec] at this; exact this, ?_⟩
        exact (wpIn_wide (n := 0)).2 (hstop _ _ _ hpre (hIxp _ _ _ _ _ hi hl rfl (by omega)) (Nat.le_refl _) ((World.putObj_heap_other (by omega)).trans hk))
end Go.Proofs.YtbmginkdlcpnpaaDoorQ
end
section
namespace Go.Proofs.YtbmginkdlcpnpaaDoor.Wk
open Go.RowKit Go.Proofs.YtbmginkdlcpnpaaDoorW.PrintWords Go.Proofs.YtbmginkdlcpnpaaDoorW.PrintLast Go.Proofs.YtbmginkdlcpnpaaDoorW.PrintMore
attribute [local go_sem] max2_int min2_int max_two min_two max_three min_three max_four min_four
set_option linter.unusedVariables false
set_option linter.unusedSimpArgs false
section
open Go.RowKit Go.Lib Go.Proofs.YtbmginkdlcpnpaaDoorQ
attribute [local go_sem] Oper.semAt_some
def cutL : List UInt8 → List (List UInt8)
  | [] => [[]]
  | b :: l => if b = 47 then [] :: cutL l else match cutL l with
    | [] => [[b]]
    | p :: ps => (b :: p) :: ps
theorem cutL_ne (l : List UInt8) : cutL l ≠ [] := by
  cases l with
  | nil => simp [cutL]
  | cons b l =>
    unfold cutL
    split
    · simp
    · split <;> simp
theorem cutL_none : ∀ l : List UInt8, Lib.indexByte l 47 = -1 → cutL l = [l]
  | [], _ => rfl
  | b :: l, h => by
    have hg := Lib.indexByte_ge l 47
    have hb : ¬ b = 47 := by rintro rfl; simp [Lib.indexByte] at h
    have hl : Lib.indexByte l 47 = -1 := by
      simp only [Lib.indexByte, beq_iff_eq, hb, if_false] at h
      split at h
      · assumption
      · omega
    unfold cutL
    rw [if_neg hb, cutL_none l hl]
theorem cutL_some : ∀ (l : List UInt8) (o : Nat), Lib.indexByte l 47 = o → o < l.length ∧ cutL l = l.take o :: cutL (l.drop (o + 1))
  | [], o, h => by simp [Lib.indexByte] at h
  | b :: l, o, h => by
    by_cases hb : b = 47
    · subst hb
      have ho : o = 0 := by simp [Lib.indexByte] at h; omega
      subst ho
      exact ⟨by simp, by simp [cutL]⟩
    · simp only [Lib.indexByte, beq_iff_eq, hb, if_false] at h
      split at h
      · omega
      · have hg := Lib.indexByte_ge l 47
        obtain ⟨o', rfl⟩ : ∃ o', o = o' + 1 := ⟨o - 1, by omega⟩
        obtain ⟨h1, h2⟩ := cutL_some l o' (by push_cast at h; omega)
        refine ⟨by simp; omega, ?_⟩
        rw [show cutL (b :: l) = (if b = 47 then [] :: cutL l else match cutL l with | [] => [[b]] | p :: ps => (b :: p) :: ps) from rfl, if_neg hb, h2]
        rfl
def mkB (l : List UInt8) : ByteArray := ⟨l.toArray⟩
theorem mkB_data (s : ByteArray) : mkB s.data.toList = s := rfl
theorem data_mkB (l : List UInt8) : (mkB l).data.toList = l := by simp [mkB]
theorem mkB_eq {s t : ByteArray} (h : s.data.toList = t.data.toList) : s = t := by rw [← mkB_data s, ← mkB_data t, h]
def partsB (s : ByteArray) : List ByteArray := (cutL s.data.toList).map mkB
theorem partsB_none (s : ByteArray) (h : Lib.indexByte s.data.toList 47 = -1) : partsB s = [s] := by
  unfold partsB
  rw [cutL_none _ h]
  rfl
theorem partsB_some (s : ByteArray) (o : Nat) (h : Lib.indexByte s.data.toList 47 = o) : o < s.size ∧ partsB s = s.extract 0 o :: partsB (s.extract (o + 1) s.size) := by
  obtain ⟨h1, h2⟩ := cutL_some _ o h
  have hz := Lib.size_eq s
  refine ⟨by omega, ?_⟩
  unfold partsB
  rw [h2, List.map_cons]
  congr 1
  · apply mkB_eq
    rw [data_mkB, Lib.extract_data]
    simp
  · rw [Lib.extract_data, List.take_of_length_le]
    rw [List.length_drop]
    omega
theorem idx_nat (l : List UInt8) (h : ¬ Lib.indexByte l 47 = -1) : ∃ o : Nat, Lib.indexByte l 47 = o := by
  have hix := Lib.indexByte_ge l 47
  exact ⟨(Lib.indexByte l 47).toNat, by omega⟩
theorem wrap_on (o : Nat) (h : o < 4294967296) : wrap64 (o : Int) = o := by
  unfold wrap64
  omega
theorem wrap_on1 (o : Nat) (h : o < 4294967296) : wrap64 ((o : Int) + 1) = o + 1 := by
  unfold wrap64
  omega
set_option maxHeartbeats 4000000 in
theorem split1_hands (Bp Bs Bv : Nat) (s : ByteArray) (w : World) (hz0 : s.size < 4294967281) (hp : w.heap[Bp]? = some (.cells #[.string ⟨#[47]⟩] 9 (0, 0))) (hs : w.heap[Bs]? = some (.cells #[.string s] 9 (0, 0))) (hv : w.heap[Bv]? = some (.cells #[.int .i64 0] 3 (0, 0))) (hps : Bp ≠ Bs) (hvs : Bv ≠ Bs) :
    HandsS Tryd.prog 57 #[.pointer (some ⟨Bp, 0, none⟩), .pointer (some ⟨Bs, 0, none⟩), .pointer (some ⟨Bv, 0, none⟩)] Value.string (partsB s) (fun k => k = Bs) (fun k => k = Bp ∨ k = Bs ∨ k = Bv) w := by
  intro l n J Jx W hW hJ hY h0
  have hlp := (Array.getElem?_eq_some_iff.1 hp).1
  have hls := (Array.getElem?_eq_some_iff.1 hs).1
  have hlv := (Array.getElem?_eq_some_iff.1 hv).1
  have gp := (hW.same Bp (.inl rfl) hlp).trans hp
  have gs := (hW.same Bs (.inr (.inl rfl)) hls).trans hs
  have gv := (hW.same Bv (.inr (.inr rfl)) hlv).trans hv
  have cp : W.cell? ⟨Bp, 0, none⟩ = some (.string ⟨#[47]⟩) := (blk_cell gp 0).trans rfl
  have HY := Aside0.mk hY
  have HJ := Aside0.mk hJ
  have HZ0 := Aside0.mk hz0
  clear hY hJ hp hs hv hW hz0
  have hro : Fence.wide.round = none := rfl
  have hdp : Fence.wide.depth = none := rfl
  have hdi : ¬ (Fence.wide.depth.isSome = true) := by simp [Fence.wide]
  refine callsIn_of_wp Tryd.func57 rfl trivial ?_ rfl
  simp only [Tryd.ntmps57, List.size_toArray, List.length_cons, List.length_nil, Nat.reduceAdd, Nat.reduceSub, Array.replicate_succ, Array.replicate_zero, List.push_toArray, List.append_toArray, List.nil_append, List.cons_append]
  have HJ0 := Aside0.mk h0
  clear h0
  gi_wp2
  gi_loopg [7, 8] s.size (fun g _ _ wq => ∃ (r : ByteArray) (pre : List ByteArray), r.size ≤ g ∧ r.size ≤ s.size ∧ wq.heap[Bp]? = some (.cells #[.string ⟨#[47]⟩] 9 (0, 0)) ∧ wq.heap[Bs]? = some (.cells #[.string r] 9 (0, 0)) ∧ wq.heap[Bv]? = some (.cells #[.int .i64 0] 3 (0, 0)) ∧ Aside0 (pre ++ partsB r = partsB s) ∧ Aside0 (J pre wq))
  case atStart => exact ⟨s, [], Nat.le_refl _, Nat.le_refl _, gp, gs, gv, ⟨rfl⟩, HJ0⟩
  case round =>
    obtain ⟨r, pre, hrg, hrs, qp, qs, qv, HP, HJ1⟩ := hrel
    have cp : wr.cell? ⟨Bp, 0, none⟩ = some (.string ⟨#[47]⟩) := (blk_cell qp 0).trans rfl
    have cs : wr.cell? ⟨Bs, 0, none⟩ = some (.string r) := (blk_cell qs 0).trans rfl
    have cv : wr.cell? ⟨Bv, 0, none⟩ = some (.int .i64 0) := (blk_cell qv 0).trans rfl
    by_cases hi : Lib.indexByte r.data.toList 47 = -1
    · have hpr := partsB_none r hi
      rw [hpr] at HP
      obtain ⟨fn, tmps, assign, body, hy, hR⟩ := HY.out pre r wr HJ1.out (by rw [HP.out]; exact List.prefix_refl _)
      gi_wp2_with (refine ⟨trivial, ?_⟩; gi_at_call 59; refine (callsIn_wide.2 (Tryd.strings_Index_one _ _ _)).mono ?_; rintro e_ w2 ⟨rfl, rfl⟩; rw [hi])
      refine hR.mono ?_
      rintro e W3 (⟨rfl, hJ3, hs3⟩ | ⟨rfl, hJ3⟩)
      · rw [HP.out] at hJ3
        gi_wp2
        go_end0
        exact ⟨⟨_, rfl⟩, .inl hJ3⟩
      · gi_wp2
        go_end0
        exact ⟨⟨_, rfl⟩, .inr ⟨_, by rw [HP.out]; exact List.prefix_refl _, hJ3⟩⟩
    · obtain ⟨o, ho⟩ : ∃ o : Nat, Lib.indexByte r.data.toList 47 = o := idx_nat _ hi
      obtain ⟨hor, hpr⟩ := partsB_some r o ho
      rw [hpr] at HP
      have hz1 : (r.extract (o + 1) r.size).size = r.size - (o + 1) := by simp
      obtain ⟨fn, tmps, assign, body, hy, hR⟩ := HY.out pre (r.extract 0 o) wr HJ1.out (by rw [← HP.out]; exact ⟨partsB (r.extract (o + 1) r.size), by simp⟩)
      have HP2 : Aside0 ((pre ++ [r.extract 0 o]) ++ partsB (r.extract (o + 1) r.size) = partsB s) := ⟨by rw [List.append_assoc]; exact HP.out⟩
      have ho4 : o < 4294967296 := Nat.lt_trans hor (Nat.lt_of_le_of_lt hrs (Nat.lt_trans HZ0.out (by decide)))
      have hA := fun w => run_slice_string_h (P := Tryd.prog) w 9 r Tryd.underlying9 .i64 o (Int.natCast_nonneg o) (by omega)
      have hB := fun w => run_slice_string_l (P := Tryd.prog) w 9 r Tryd.underlying9 .i64 (o + 1) (by omega) (by omega)
      rw [show ((o : Int)).toNat = o from rfl] at hA
      rw [show ((o : Int) + 1).toNat = o + 1 from rfl] at hB
      have hw := wrap_on o ho4
      have hw1 := wrap_on1 o ho4
      have hneg : decide ((o : Int) < 0) = false := decide_eq_false (Int.not_lt.2 (Int.natCast_nonneg o))
      have HO := Aside0.mk hor
      clear ho4
      have HZ1 := Aside0.mk hz1
      clear hz1 hpr
      generalize hoj : (o : Int) + 1 = oj at hB hw1
      generalize hoi : (o : Int) = oi at hA hw hneg ho hoj
      generalize r.extract 0 o = pa at hA hR hy HP HP2
      generalize r.extract (o + 1) r.size = pb at hB HP HP2 HZ1
      have HOI := Aside0.mk hoi
      clear hoi hi
      gi_wp2_with (refine ⟨trivial, ?_⟩; gi_at_call 59; refine (callsIn_wide.2 (Tryd.strings_Index_one _ _ _)).mono ?_; rintro e_ w2 ⟨rfl, rfl⟩; rw [ho])
      refine hR.mono ?_
      clear hR hy
      rintro e W3 (⟨rfl, hJ3, hs3⟩ | ⟨rfl, hJ3⟩)
      · have q3 := (hs3.same Bs (.inr (.inl rfl)) (Array.getElem?_eq_some_iff.1 qs).1).trans qs
        have p3 := (hs3.same Bp (.inl rfl) (Array.getElem?_eq_some_iff.1 qp).1).trans qp
        have v3 := (hs3.same Bv (.inr (.inr rfl)) (Array.getElem?_eq_some_iff.1 qv).1).trans qv
        have cp3 : W3.cell? ⟨Bp, 0, none⟩ = some (.string ⟨#[47]⟩) := (blk_cell p3 0).trans rfl
        have cs3 : W3.cell? ⟨Bs, 0, none⟩ = some (.string r) := (blk_cell q3 0).trans rfl
        have fs3 := blk_frozen q3 0
        have HJ3 := Aside0.mk hJ3
        clear hJ3 hs3
        gi_wp2
        clear hw hw1 hneg hA hB ho
        gi_roundg (gk - 1)
        case measure => have := HO.out; omega
        case rel =>
          refine ⟨pb, pre ++ [pa], by have := HO.out; rw [HZ1.out]; omega, by rw [HZ1.out]; omega, ?_, ?_, ?_, HP2, ⟨HJ.out _ _ _ HJ3.out (SameOn.setCell _ _ _ (by simp))⟩⟩
          · exact blk_far p3 hps _
          · exact (blk_set q3 0 _).trans rfl
          · exact blk_far v3 hvs _
      · gi_wp2
        refine bodyPost_ret (results_none rfl _ _ _) rfl ?_
        exact ⟨⟨_, rfl⟩, .inr ⟨_, by rw [← HP.out]; exact ⟨partsB pb, by simp⟩, hJ3⟩⟩
set_option maxHeartbeats 4000000 in
theorem parts_calls (s : ByteArray) (w : World) (h0 : 1 ≤ s.size) :
    Calls Tryd.prog 29 #[.string s] w fun e w' => e = .returned (.func (.func 57) #[] #[.pointer (some ⟨w.heap.size + 1, 0, none⟩), .pointer (some ⟨w.heap.size, 0, none⟩), .pointer (some ⟨w.heap.size + 2, 0, none⟩)]) ∧ w' = (((w.alloc (.cells #[.string (s.extract 1 s.size)] 9)).alloc (.cells #[.string ⟨#[47]⟩] 9)).alloc (.cells #[.int .i64 0] 3)) := by
  have hB := fun w => run_slice_string_l (P := Tryd.prog) w 9 s Tryd.underlying9 .i64 1 (by omega) (by omega)
  rw [show ((1 : Int)).toNat = 1 from rfl] at hB
  generalize s.extract 1 s.size = pb at hB ⊢
  go_enter Tryd.func29, Tryd.ntmps29
  go_wp2
  go_ret
  exact ⟨rfl, rfl⟩
end
end Go.Proofs.YtbmginkdlcpnpaaDoor.Wk
end
section
namespace Go.Proofs.YtbmginkdlcpnpaaDoor.Wk
open Go.RowKit Go.Proofs.YtbmginkdlcpnpaaDoorW.PrintWords Go.Proofs.YtbmginkdlcpnpaaDoorW.PrintLast Go.Proofs.YtbmginkdlcpnpaaDoorW.PrintMore
attribute [local go_sem] max2_int min2_int max_two min_two max_three min_three max_four min_four
set_option linter.unusedVariables false
set_option linter.unusedSimpArgs false
section
open Go.RowKit Go.Extern.Stop Go.Stop Go.Extern
theorem errAs_nil (t : Value) (w : World) :
    Calls Tryd.prog 30 #[.nilIface, t] w fun e w' => e = .returned (.bool false) ∧ w' = w := by
  go_enter Tryd.func30, Tryd.ntmps30
  go_wp2
  go_ret
  exact ⟨rfl, rfl⟩
theorem as_valueOf27 (t : Addr) (w : World) : (ReflectliteValue.unpack (.iface 59 (.pointer (some t)))).run Tryd.prog w
    = .ok (.agg #[.pointer (some ⟨4, 59, none⟩), .pointer (some ⟨w.heap.size, 0, none⟩), .int .u64 150]) (w.alloc (.cells #[.pointer (some t)] 59)) := by kernel_rfl
theorem as_type27 (a : Addr) (w : World) : (ReflectliteValue.methodAny (ReflectliteValue.valueError "reflectlite.Value.Type" 0) (fun t _ _ _ => ReflectliteType.toType t) #[.agg #[.pointer (some ⟨4, 59, none⟩), .pointer (some a), .int .u64 150]]).run Tryd.prog w
    = .ok (.iface 94 (.agg #[.pointer (some ⟨4, 59, none⟩)])) w := by kernel_rfl
theorem as_methodKind (h : Value) (w : World) : (Go.method 254 94 (.agg #[h]) "Kind").run Tryd.prog w = .ok (81, h) w := by kernel_rfl
theorem as_kind27 (w : World) : ((ReflectliteType.abiMethod fun t => (fun a : Nat => Value.int IntKind.u8 (a : Int)) <$> Rtype.kind t) #[.pointer (some ⟨4, 59, none⟩)]).run Tryd.prog w = .ok (.int .u8 22) w := by kernel_rfl
theorem as_kind25 (w : World) : ((ReflectliteType.abiMethod fun t => (fun a : Nat => Value.int IntKind.u8 (a : Int)) <$> Rtype.kind t) #[.pointer (some ⟨4, 57, none⟩)]).run Tryd.prog w = .ok (.int .u8 22) w := by kernel_rfl
theorem rlm (z : Sem Value) (f : TypeId → Addr → Nat → Nat → Sem Value) (v : Value) :
    ReflectliteValue.method z f #[v] = (do match ← ReflectliteValue.parts v with | none => z | some (t, a, fl) => f t a fl (fl % 32)) := rfl
theorem as_parts27 (a : Addr) (w : World) : (ReflectliteValue.parts (.agg #[.pointer (some ⟨4, 59, none⟩), .pointer (some a), .int .u64 150])).run Tryd.prog w = .ok (some (59, a, 150)) w := by kernel_rfl
theorem as_isNil27 (a p : Addr) (W : World) (ha : W.cell? a = some (.pointer (some p))) :
    (ReflectliteValue.method (ReflectliteValue.valueError "reflectlite.Value.IsNil" 0) ReflectliteValue.isNil #[.agg #[.pointer (some ⟨4, 59, none⟩), .pointer (some a), .int .u64 150]]).run Tryd.prog W = .ok (.bool false) W := by
  rw [rlm]
  simp only [Sem.run_bind, as_parts27, Result.andThen]
  simp [ReflectliteValue.isNil, loadVar, isAgg, underlying, Tryd.underlying59, ha, Result.andThen]
theorem as_methodElem (h : Value) (w : World) : (Go.method 254 94 (.agg #[h]) "Elem").run Tryd.prog w = .ok (94, .agg #[h]) w := by kernel_rfl
theorem as_methodImplements (h : Value) (w : World) : (Go.method 254 94 (.agg #[h]) "Implements").run Tryd.prog w = .ok (95, .agg #[h]) w := by kernel_rfl
theorem as_methodAssignableTo (h : Value) (w : World) : (Go.method 254 94 (.agg #[h]) "AssignableTo").run Tryd.prog w = .ok (92, .agg #[h]) w := by kernel_rfl
theorem as_elem27 (w : World) : (ReflectliteType.method ReflectliteType.elem #[.agg #[.pointer (some ⟨4, 59, none⟩)]]).run Tryd.prog w = .ok (.iface 94 (.agg #[.pointer (some ⟨4, 57, none⟩)])) w := by kernel_rfl
theorem as_implements25 (w : World) : (ReflectliteType.relation "Implements" ReflectliteType.implements_ #[.agg #[.pointer (some ⟨4, 57, none⟩)], .iface 94 (.agg #[.pointer (some ⟨4, 43, none⟩)])]).run Tryd.prog w = .ok (.bool true) w := by kernel_rfl
theorem as_typeOf25 (v : Value) (w : World) : (ReflectliteType.typeOf #[.iface 57 v]).run Tryd.prog w = .ok (.iface 94 (.agg #[.pointer (some ⟨4, 57, none⟩)])) w := by kernel_rfl
theorem as_assignable25 (w : World) : (ReflectliteType.relation "AssignableTo" ReflectliteType.assignableTo #[.agg #[.pointer (some ⟨4, 57, none⟩)], .iface 94 (.agg #[.pointer (some ⟨4, 57, none⟩)])]).run Tryd.prog w = .ok (.bool true) w := by kernel_rfl
theorem as_valueOf25 (e : Addr) (w : World) : (ReflectliteValue.unpack (.iface 57 (.pointer (some e)))).run Tryd.prog w
    = .ok (.agg #[.pointer (some ⟨4, 57, none⟩), .pointer (some ⟨w.heap.size, 0, none⟩), .int .u64 150]) (w.alloc (.cells #[.pointer (some e)] 57)) := by kernel_rfl
theorem as_elemOf27 (w : World) : (Rtype.elem? 59).run Tryd.prog w = .ok (some 57) w := by kernel_rfl
theorem as_mk25 (p : Addr) (w : World) : (ReflectliteValue.mk 57 p ReflectliteValue.flagAddr).run Tryd.prog w = .ok (.agg #[.pointer (some ⟨4, 57, none⟩), .pointer (some p), .int .u64 406]) w := by kernel_rfl
theorem as_elemV27 (a p : Addr) (W : World) (ha : W.cell? a = some (.pointer (some p))) :
    (ReflectliteValue.method (ReflectliteValue.valueError "reflectlite.Value.Elem" 0) ReflectliteValue.elem #[.agg #[.pointer (some ⟨4, 59, none⟩), .pointer (some a), .int .u64 150]]).run Tryd.prog W
      = .ok (.agg #[.pointer (some ⟨4, 57, none⟩), .pointer (some p), .int .u64 406]) W := by
  rw [rlm]
  simp only [Sem.run_bind, as_parts27, Result.andThen]
  simp [ReflectliteValue.elem, loadVar, isAgg, underlying, Tryd.underlying59, ha, Result.andThen, as_elemOf27, as_mk25]
theorem rls (v x : Value) : ReflectliteValue.set #[v, x] = (do
    let (some (dst, a, fl), some (src, b, _)) := (← ReflectliteValue.parts v, ← ReflectliteValue.parts x)
      | unsupported (.noEntry "extern/(internal/reflectlite.Value).Set.zeroValue")
    if fl / ReflectliteValue.flagAddr % 2 == 0 then unsupported (.noEntry "extern/(internal/reflectlite.Value).Set.unaddressable")
    let val ← loadVar src b
    if ← Rtype.directlyAssignable dst src then storeVar dst a val
    else if ← Rtype.implements dst src then
      if (← Rtype.kind src) == 20 then
        match val with
        | .nilIface => unsupported (.noEntry "extern/reflectlite: a nil value of one interface type handed on as a value of another")
        | _ => storeVar dst a val
      else storeVar dst a (.iface src val)
    else panicString ("reflectlite.Set: value of type " ++ (← Rtype.spelt src) ++ " is not assignable to type " ++ (← Rtype.spelt dst))
    pure (.tuple #[])) := rfl
theorem as_parts25a (a : Addr) (w : World) : (ReflectliteValue.parts (.agg #[.pointer (some ⟨4, 57, none⟩), .pointer (some a), .int .u64 406])).run Tryd.prog w = .ok (some (57, a, 406)) w := by kernel_rfl
theorem as_parts25 (a : Addr) (w : World) : (ReflectliteValue.parts (.agg #[.pointer (some ⟨4, 57, none⟩), .pointer (some a), .int .u64 150])).run Tryd.prog w = .ok (some (57, a, 150)) w := by kernel_rfl
theorem as_direct25 (w : World) : (Rtype.directlyAssignable 57 57).run Tryd.prog w = .ok true w := by kernel_rfl
theorem as_set25 (ta b e : Addr) (old : Value) (W : World) (hb : W.cell? b = some (.pointer (some e))) (ht : W.cell? ta = some old) (hf : W.frozen? ta = false) :
    (ReflectliteValue.set #[.agg #[.pointer (some ⟨4, 57, none⟩), .pointer (some ta), .int .u64 406], .agg #[.pointer (some ⟨4, 57, none⟩), .pointer (some b), .int .u64 150]]).run Tryd.prog W
      = .ok (.tuple #[]) (W.setCell ta (.pointer (some e))) := by
  rw [rls]
  simp only [Sem.run_bind, as_parts25a, as_parts25, Result.andThen]
  simp [ReflectliteValue.flagAddr, loadVar, isAgg, underlying, Tryd.underlying57, hb, Result.andThen, as_direct25, storeVar, Value.cells, storeCells, Addr.add]
  rw [run_store Tryd.prog W ta _ _ (by rfl)]
  simp [ht, hf]
set_option maxHeartbeats 4000000 in
theorem errAs_hit (e t : Addr) (old : Value) (w : World) (hg : w.cell? ⟨0, 0, none⟩ = some (.iface 94 (.agg #[.pointer (some ⟨4, 43, none⟩)]))) (ht0 : w.cell? t = some old) (hf0 : w.frozen? t = false) :
    Calls Tryd.prog 30 #[.iface 57 (.pointer (some e)), .iface 59 (.pointer (some t))] w fun ev w' => ev = .returned (.bool true) ∧ w' = ((((w.alloc (.cells #[.pointer (some t)] 59)).alloc (.cells #[.pointer (some ⟨4, 59, none⟩), .pointer (some ⟨w.heap.size, 0, none⟩), .int .u64 150] 78)).alloc (.cells #[.pointer (some ⟨4, 59, none⟩), .pointer (some ⟨w.heap.size, 0, none⟩), .int .u64 150] 78)).alloc (.cells #[.pointer (some e)] 57)).setCell t (.pointer (some e)) := by
  have h6 := @run_callFunc_extern Tryd.prog 40 _ (fun args => ReflectliteValue.unpack (args.getD 0 (.tuple #[]))) Tryd.func40 (by kernel_rfl) (by kernel_rfl) (by kernel_rfl) (by kernel_rfl)
  have h7 := @run_callFunc_extern Tryd.prog 41 _ (ReflectliteValue.methodAny (ReflectliteValue.valueError "reflectlite.Value.Type" 0) (fun t _ _ _ => ReflectliteType.toType t)) Tryd.func41 (by kernel_rfl) (by kernel_rfl) (by kernel_rfl) (by kernel_rfl)
  have h8 := @run_callFunc_extern Tryd.prog 42 _ (ReflectliteValue.method (ReflectliteValue.valueError "reflectlite.Value.IsNil" 0) ReflectliteValue.isNil) Tryd.func42 (by kernel_rfl) (by kernel_rfl) (by kernel_rfl) (by kernel_rfl)
  have h27 := @run_callFunc_extern Tryd.prog 81 _ (ReflectliteType.abiMethod fun t => do pure (.int .u8 (← Rtype.kind t))) Tryd.func81 (by kernel_rfl) (by kernel_rfl) (by kernel_rfl) (by kernel_rfl)
  have h37 := @run_callFunc_extern Tryd.prog 94 _ (ReflectliteType.method ReflectliteType.elem) Tryd.func94 (by kernel_rfl) (by kernel_rfl) (by kernel_rfl) (by kernel_rfl)
  have h38 := @run_callFunc_extern Tryd.prog 95 _ (ReflectliteType.relation "Implements" ReflectliteType.implements_) Tryd.func95 (by kernel_rfl) (by kernel_rfl) (by kernel_rfl) (by kernel_rfl)
  have h10 := @run_callFunc_extern Tryd.prog 32 _ ReflectliteType.typeOf Tryd.func32 (by kernel_rfl) (by kernel_rfl) (by kernel_rfl) (by kernel_rfl)
  have h35 := @run_callFunc_extern Tryd.prog 92 _ (ReflectliteType.relation "AssignableTo" ReflectliteType.assignableTo) Tryd.func92 (by kernel_rfl) (by kernel_rfl) (by kernel_rfl) (by kernel_rfl)
  have h11 := @run_callFunc_extern Tryd.prog 52 _ (ReflectliteValue.method (ReflectliteValue.valueError "reflectlite.Value.Elem" 0) ReflectliteValue.elem) Tryd.func52 (by kernel_rfl) (by kernel_rfl) (by kernel_rfl) (by kernel_rfl)
  have h12 := @run_callFunc_extern Tryd.prog 53 _ ReflectliteValue.set Tryd.func53 (by kernel_rfl) (by kernel_rfl) (by kernel_rfl) (by kernel_rfl)
  have tO := as_typeOf25
  have mA := as_methodAssignableTo
  have a25 := as_assignable25
  have v25 := as_valueOf25
  have f6 := as_valueOf27
  have f7 := as_type27
  have mK := as_methodKind
  have mE := as_methodElem
  have mI := as_methodImplements
  have k27 := as_kind27
  have k25 := as_kind25
  have e27 := as_elem27
  have i25 := as_implements25
  have n8 := as_isNil27 ⟨w.heap.size, 0, none⟩ t ((w.alloc (.cells #[.pointer (some t)] 59)).alloc (.cells #[.pointer (some ⟨4, 59, none⟩), .pointer (some ⟨w.heap.size, 0, none⟩), .int .u64 150] 78)) (by simp)
  have hlt : 0 < w.heap.size := by
    rcases Nat.eq_zero_or_pos w.heap.size with h0 | h
    · simp [World.cell?, h0] at hg
    · exact h
  have hg2 : ((w.alloc (.cells #[.pointer (some t)] 59)).alloc (.cells #[.pointer (some ⟨4, 59, none⟩), .pointer (some ⟨w.heap.size, 0, none⟩), .int .u64 150] 78)).cell? ⟨0, 0, none⟩ = some (.iface 94 (.agg #[.pointer (some ⟨4, 43, none⟩)])) := by
    rw [World.cell?_alloc_lt _ _ ⟨0, 0, none⟩ (by simp), World.cell?_alloc_lt _ _ ⟨0, 0, none⟩ hlt]; exact hg
  have htl : t.block < w.heap.size := by
    rcases Nat.lt_or_ge t.block w.heap.size with h | h
    · exact h
    · simp [World.cell?, Array.getElem?_eq_none h] at ht0
  have el := as_elemV27 ⟨w.heap.size, 0, none⟩ t (((w.alloc (.cells #[.pointer (some t)] 59)).alloc (.cells #[.pointer (some ⟨4, 59, none⟩), .pointer (some ⟨w.heap.size, 0, none⟩), .int .u64 150] 78)).alloc (.cells #[.pointer (some ⟨4, 59, none⟩), .pointer (some ⟨w.heap.size, 0, none⟩), .int .u64 150] 78)) (by rw [World.cell?_alloc_lt _ _ ⟨w.heap.size, 0, none⟩ (by simp; omega)]; simp)
  have st := as_set25 t ⟨w.heap.size + 1 + 1 + 1, 0, none⟩ e old ((((w.alloc (.cells #[.pointer (some t)] 59)).alloc (.cells #[.pointer (some ⟨4, 59, none⟩), .pointer (some ⟨w.heap.size, 0, none⟩), .int .u64 150] 78)).alloc (.cells #[.pointer (some ⟨4, 59, none⟩), .pointer (some ⟨w.heap.size, 0, none⟩), .int .u64 150] 78)).alloc (.cells #[.pointer (some e)] 57))
    (by rw [World.cell?_alloc_at _ _ _ _ (by simp)]; rfl)
    (by rw [World.cell?_alloc_lt _ _ t (by simp; omega), World.cell?_alloc_lt _ _ t (by simp; omega), World.cell?_alloc_lt _ _ t (by simp; omega), World.cell?_alloc_lt _ _ t htl]; exact ht0)
    (by rw [World.frozen?_alloc_old _ _ t (by simp; omega), World.frozen?_alloc_old _ _ t (by simp; omega), World.frozen?_alloc_old _ _ t (by simp; omega), World.frozen?_alloc_old _ _ t (Nat.ne_of_lt htl)]; exact hf0)
  go_enter Tryd.func30, Tryd.ntmps30
  go_wp2
  refine wp_loop_rounds 1 ?_
  rw [rounds_succ]
  go_wp2
  go_ret
  exact ⟨rfl, rfl⟩
end
end Go.Proofs.YtbmginkdlcpnpaaDoor.Wk
end
section
namespace Go.Proofs.YtbmginkdlcpnpaaDoor.Wk
open Go.RowKit Go.Proofs.YtbmginkdlcpnpaaDoorW.PrintWords Go.Proofs.YtbmginkdlcpnpaaDoorW.PrintLast Go.Proofs.YtbmginkdlcpnpaaDoorW.PrintMore
attribute [local go_sem] max2_int min2_int max_two min_two max_three min_three max_four min_four
set_option linter.unusedVariables false
set_option linter.unusedSimpArgs false
section
open Go.RowKit Go.Extern.Stop Go.Stop Go.Extern
def Lay (w : World) : Prop := w.cell? ⟨0, 0, none⟩ = some (.iface 94 (.agg #[.pointer (some ⟨4, 43, none⟩)]))
theorem lay_below {w w' : World} (h : Lay w) (hb : Below w.heap.size w w') : Lay w' := (hb.cell (World.block_lt_of_cell? w _ h)).trans h
def FaultAt (W : World) (g : Nat) (at_ why : Int) : Prop := W.heap[g]? = some (.cells #[.int .i64 at_, .int .i64 why] 61 (0, 0))
set_option maxHeartbeats 4000000 in
theorem wrong_calls (at_ why : Int) (w : World) : Calls Tryd.prog 25 #[.int .i64 at_, .int .i64 why] w fun e w' => ∃ g, e = .returned (.iface 57 (.pointer (some ⟨g, 0, none⟩))) ∧ FaultAt w' g at_ why ∧ w.heap.size ≤ g ∧ Below w.heap.size w w' := by
  have hu := Tryd.underlying61
  go_enter Tryd.func25, Tryd.ntmps25
  go_wp2_with (first | ((with_reducible refine gate_dst (N := 8) rfl ?_); refine box_event ?hg (N := 8) ?hd (cs := #[.int .i64 at_, .int .i64 why]) (t := 61) ?hr ?_; (case hd => rfl); (case hg => rfl); (case hr => first | (go_simp; done) | (go_simp; rfl)); intro b hg w1 hbox hb; have HBX := Aside0.mk hbox; have HB := Aside0.mk hb; have HG := Aside0.mk hg; clear hbox hb hg))
  go_ret
  exact ⟨_, rfl, HBX.out, by have := HG.out; omega, HB.out⟩
set_option maxHeartbeats 4000000 in
theorem plain_nil (w : World) : Calls Tryd.prog 22 #[.nilIface] w fun e w' => e = .returned (.tuple #[.int .i64 0, .int .i64 0]) ∧ Below w.heap.size w w' := by
  go_enter Tryd.func22, Tryd.ntmps22
  go_wp2_with (go_at_call 30; refine (errAs_nil _ _).mono ?_; rintro e_ w' ⟨rfl, rfl⟩)
  go_ret2
  exact ⟨rfl, below_alloc (Below.refl _ _) _⟩
set_option maxHeartbeats 4000000 in
theorem plain_hit (g : Nat) (at_ why : Int) (w : World) (hl : Lay w) (hf : FaultAt w g at_ why) : Calls Tryd.prog 22 #[.iface 57 (.pointer (some ⟨g, 0, none⟩))] w fun e w' => e = .returned (.tuple #[.int .i64 at_, .int .i64 why]) ∧ Below w.heap.size w w' := by
  have hgl : g < w.heap.size := (Array.getElem?_eq_some_iff.1 hf).1
  have HL := Aside0.mk hl
  have HF := Aside0.mk hf
  have HGL := Aside0.mk hgl
  clear hl hf hgl
  go_enter Tryd.func22, Tryd.ntmps22
  go_upto_region 2 with (fail)
  have hb1 := below_alloc (Below.refl w.heap.size w) (.cells #[.pointer none] 57)
  have HL1 := Aside0.mk (lay_below HL.out hb1)
  have HF1 := Aside0.mk ((hb1.block g HGL.out).trans HF.out)
  have hn := World.alloc_heap_new w (.cells #[.pointer none] 57)
  have ht0 : (w.alloc (.cells #[.pointer none] 57)).cell? ⟨w.heap.size, 0, none⟩ = some (.pointer none) := (blk_cell hn 0).trans rfl
  have hf0 := blk_frozen hn 0
  have hz : (w.alloc (.cells #[.pointer none] 57)).heap.size = w.heap.size + 1 := World.size_alloc _ _
  have HB1 := Aside0.mk hb1
  clear hb1 HL HF hn
  generalize w.alloc (.cells #[.pointer none] 57) = w1 at HL1 HF1 ht0 hf0 HB1 hz ⊢
  go_upto_region 4 with (go_at_call 30; refine (errAs_hit ⟨g, 0, none⟩ ⟨w.heap.size, 0, none⟩ (.pointer none) w1 HL1.out ht0 hf0).mono ?_; rintro e_ w2 ⟨rfl, hw2⟩; have HW2 := Aside0.mk hw2; clear hw2)
  have hS : (w2.cell? ⟨w.heap.size, 0, none⟩ = some (.pointer (some ⟨g, 0, none⟩)) ∧ w2.cell? ⟨g, 0, none⟩ = some (.int .i64 at_)) ∧ w2.cell? ⟨g, 1, none⟩ = some (.int .i64 why) ∧ Below w.heap.size w w2 := by
    rw [HW2.out]
    have hzz : w.heap.size < w1.heap.size := by omega
    have hb : Below w1.heap.size w1 ((((w1.alloc (.cells #[.pointer (some ⟨w.heap.size, 0, none⟩)] 59)).alloc (.cells #[.pointer (some ⟨4, 59, none⟩), .pointer (some ⟨w1.heap.size, 0, none⟩), .int .u64 150] 78)).alloc (.cells #[.pointer (some ⟨4, 59, none⟩), .pointer (some ⟨w1.heap.size, 0, none⟩), .int .u64 150] 78)).alloc (.cells #[.pointer (some ⟨g, 0, none⟩)] 57)) :=
      ((((Below.refl _ _).alloc (Nat.le_refl _) _).alloc (by simp only [World.size_alloc]; omega) _).alloc (by simp only [World.size_alloc]; omega) _).alloc (by simp only [World.size_alloc]; omega) _
    generalize ((((w1.alloc (.cells #[.pointer (some ⟨w.heap.size, 0, none⟩)] 59)).alloc (.cells #[.pointer (some ⟨4, 59, none⟩), .pointer (some ⟨w1.heap.size, 0, none⟩), .int .u64 150] 78)).alloc (.cells #[.pointer (some ⟨4, 59, none⟩), .pointer (some ⟨w1.heap.size, 0, none⟩), .int .u64 150] 78)).alloc (.cells #[.pointer (some ⟨g, 0, none⟩)] 57)) = w3 at hb ⊢
    have hgs : g < w1.heap.size := by have := HGL.out; omega
    have h3 : w3.heap[g]? = some (.cells #[.int .i64 at_, .int .i64 why] 61 (0, 0)) := (hb.block g hgs).trans HF1.out
    have h4 : (w3.setCell ⟨w.heap.size, 0, none⟩ (.pointer (some ⟨g, 0, none⟩))).heap[g]? = some (.cells #[.int .i64 at_, .int .i64 why] 61 (0, 0)) := by
      rw [Below.heap_setCell _ _ _ _ (show g ≠ w.heap.size by have := HGL.out; omega)]
      exact h3
    refine ⟨⟨World.cell?_setCell_same' _ _ _ (by rw [(hb.cell (p := ⟨w.heap.size, 0, none⟩) hzz).trans ht0]; rfl), (blk_cell h4 0).trans rfl⟩, (blk_cell h4 1).trans rfl, HB1.out.trans ((show Below w.heap.size w1 w3 from hb.mono (by omega)).setCell (p := ⟨w.heap.size, 0, none⟩) (Nat.le_refl _) _)⟩
  have HB := Aside0.mk hS.2.2
  have hSS : w2.drew.cell? ⟨w.heap.size, 0, none⟩ = some (.pointer (some ⟨g, 0, none⟩)) ∧ w2.drew.cell? ⟨g, 0, none⟩ = some (.int .i64 at_) ∧ w2.drew.cell? ⟨g, 1, none⟩ = some (.int .i64 why) := ⟨hS.1.1, hS.1.2, hS.2.1⟩
  clear hS HW2 ht0 hf0
  refine start_ (n := 10) (S := fun W' => W'.cell? ⟨w.heap.size, 0, none⟩ = some (.pointer (some ⟨g, 0, none⟩)) ∧ W'.cell? ⟨g, 0, none⟩ = some (.int .i64 at_) ∧ W'.cell? ⟨g, 1, none⟩ = some (.int .i64 why)) (ds := []) #[false, false, false, false, false, false, false, false, false, false] (by kernel_rfl) rfl rfl hSS (fun hHeld => ?_)
  refine take_ (i := 0) (N := some 9) (v := ?_) (a' := ?_) #[true, false, false, false, false, false, false, false, false, false] rfl rfl (by kernel_rfl) (fun _ _ _ h => h) (Or.inl ⟨by rfl, ?_⟩) hHeld ?_ ?_
  rotate_left
  · rintro w' ⟨c0_, c1_, c2_⟩
    go_simp
    with_reducible rfl
  rotate_left
  · simp only [Act.put, List.setIfInBounds_toArray, List.set_cons_zero, List.set_cons_succ, i64_w, i32_w]
    rfl
  refine pure_ (i := 1) (N := some 10) (v := ?_) (a' := ?_) #[true, true, false, false, false, false, false, false, false, false] rfl rfl (by kernel_rfl) (fun _ _ _ h => h) (Or.inl ⟨by rfl, ?_⟩) ?_ ?_
  rotate_left
  · intro w'
    go_simp
    with_reducible rfl
  rotate_left
  · simp only [Act.put, List.setIfInBounds_toArray, List.set_cons_zero, List.set_cons_succ, i64_w, i32_w]
    rfl
  refine pure_ (i := 2) (N := some 11) (v := ?_) (a' := ?_) #[true, true, true, false, false, false, false, false, false, false] rfl rfl (by kernel_rfl) (fun _ _ _ h => h) (Or.inl ⟨by rfl, ?_⟩) ?_ ?_
  rotate_left
  · intro w'
    go_simp
    with_reducible rfl
  rotate_left
  · simp only [Act.put, List.setIfInBounds_toArray, List.set_cons_zero, List.set_cons_succ, i64_w, i32_w]
    rfl
  refine take_ (i := 3) (N := some 12) (v := ?_) (a' := ?_) #[true, true, true, true, false, false, false, false, false, false] rfl rfl (by kernel_rfl) (fun _ _ _ h => h) (Or.inl ⟨by rfl, ?_⟩) hHeld ?_ ?_
  rotate_left
  · rintro w' ⟨c0_, c1_, c2_⟩
    go_simp
    with_reducible rfl
  rotate_left
  · simp only [Act.put, List.setIfInBounds_toArray, List.set_cons_zero, List.set_cons_succ, i64_w, i32_w]
    rfl
  refine take_ (i := 4) (N := some 13) (v := ?_) (a' := ?_) #[true, true, true, true, true, false, false, false, false, false] rfl rfl (by kernel_rfl) (fun _ _ _ h => h) (Or.inl ⟨by rfl, ?_⟩) hHeld ?_ ?_
  rotate_left
  · rintro w' ⟨c0_, c1_, c2_⟩
    go_simp
    with_reducible rfl
  rotate_left
  · simp only [Act.put, List.setIfInBounds_toArray, List.set_cons_zero, List.set_cons_succ, i64_w, i32_w]
    rfl
  refine pure_ (i := 5) (N := some 14) (v := ?_) (a' := ?_) #[true, true, true, true, true, true, false, false, false, false] rfl rfl (by kernel_rfl) (fun _ _ _ h => h) (Or.inl ⟨by rfl, ?_⟩) ?_ ?_
  rotate_left
  · intro w'
    go_simp
    with_reducible rfl
  rotate_left
  · simp only [Act.put, List.setIfInBounds_toArray, List.set_cons_zero, List.set_cons_succ, i64_w, i32_w]
    rfl
  refine pure_ (i := 6) (N := some 15) (v := ?_) (a' := ?_) #[true, true, true, true, true, true, true, false, false, false] rfl rfl (by kernel_rfl) (fun _ _ _ h => h) (Or.inl ⟨by rfl, ?_⟩) ?_ ?_
  rotate_left
  · intro w'
    go_simp
    with_reducible rfl
  rotate_left
  · simp only [Act.put, List.setIfInBounds_toArray, List.set_cons_zero, List.set_cons_succ, i64_w, i32_w]
    rfl
  refine take_ (i := 7) (N := some 16) (v := ?_) (a' := ?_) #[true, true, true, true, true, true, true, true, false, false] rfl rfl (by kernel_rfl) (fun _ _ _ h => h) (Or.inl ⟨by rfl, ?_⟩) hHeld ?_ ?_
  rotate_left
  · rintro w' ⟨c0_, c1_, c2_⟩
    go_simp
    with_reducible rfl
  rotate_left
  · simp only [Act.put, List.setIfInBounds_toArray, List.set_cons_zero, List.set_cons_succ, i64_w, i32_w]
    rfl
  refine pure_ (i := 8) (N := some 2) (v := ?_) (a' := ?_) #[true, true, true, true, true, true, true, true, true, false] rfl rfl (by kernel_rfl) (fun _ _ _ h => h) (Or.inl ⟨by rfl, ?_⟩) ?_ ?_
  rotate_left
  · intro w'
    go_simp
    with_reducible rfl
  rotate_left
  · simp only [Act.put, List.setIfInBounds_toArray, List.set_cons_zero, List.set_cons_succ, i64_w, i32_w]
    rfl
  refine pure_ (i := 9) (N := some 3) (v := ?_) (a' := ?_) #[true, true, true, true, true, true, true, true, true, true] rfl rfl (by kernel_rfl) (fun _ _ _ h => h) (Or.inl ⟨by rfl, ?_⟩) ?_ ?_
  rotate_left
  · intro w'
    go_simp
    with_reducible rfl
  rotate_left
  · simp only [Act.put, List.setIfInBounds_toArray, List.set_cons_zero, List.set_cons_succ, i64_w, i32_w]
    rfl
  refine done_ (by kernel_rfl) ?_
  go_wp2
  go_ret2
  exact ⟨rfl, HB.out.drew⟩
end
end Go.Proofs.YtbmginkdlcpnpaaDoor.Wk
end
section
namespace Go.Proofs.YtbmginkdlcpnpaaDoor.Wk
open Go.RowKit Go.Proofs.YtbmginkdlcpnpaaDoorW.PrintWords Go.Proofs.YtbmginkdlcpnpaaDoorW.PrintLast Go.Proofs.YtbmginkdlcpnpaaDoorW.PrintMore
attribute [local go_sem] max2_int min2_int max_two min_two max_three min_three max_four min_four
set_option linter.unusedVariables false
set_option linter.unusedSimpArgs false
section
open Go.RowKit Go.Lib
set_option maxRecDepth 100000 in
theorem decode_over (s : ByteArray) (pos : Nat) (h : pos < s.size) (ha : 128 ≤ (s[pos]'h).toNat) :
    pos + (Utf8.decode s pos).2 ≤ s.size ∧ ∀ j, pos ≤ j → j < pos + (Utf8.decode s pos).2 → 128 ≤ (s.get! j).toNat := by
  have h0 : 128 ≤ (s.get! (pos + 0)).toNat := by rw [get_at s pos h]; exact ha
  have key : (Utf8.decode s pos).2 = 1 ∨ ((Utf8.decode s pos).2 = 2 ∧ (s.get! (pos + 1)).toNat / 64 = 2 ∧ pos + 1 < s.size) ∨
      ((Utf8.decode s pos).2 = 3 ∧ (s.get! (pos + 1)).toNat / 64 = 2 ∧ (s.get! (pos + 2)).toNat / 64 = 2 ∧ pos + 2 < s.size) ∨
      ((Utf8.decode s pos).2 = 4 ∧ (s.get! (pos + 1)).toNat / 64 = 2 ∧ (s.get! (pos + 2)).toNat / 64 = 2 ∧ (s.get! (pos + 3)).toNat / 64 = 2 ∧ pos + 3 < s.size) := by
    have hn : ¬ (s.get! (pos + 0)).toNat < 128 := by omega
    simp only [Utf8.decode, hn, if_false]
    repeat' split
    all_goals simp_all [Utf8.runeError]
  rcases key with k | ⟨k, k1, kz⟩ | ⟨k, k1, k2, kz⟩ | ⟨k, k1, k2, k3, kz⟩ <;> rw [k] <;> refine ⟨by omega, fun j hj1 hj2 => ?_⟩
  · obtain rfl : j = pos + 0 := by omega
    exact h0
  · rcases (show j = pos + 0 ∨ j = pos + 1 by omega) with rfl | rfl
    · exact h0
    · omega
  · rcases (show j = pos + 0 ∨ j = pos + 1 ∨ j = pos + 2 by omega) with rfl | rfl | rfl
    · exact h0
    · omega
    · omega
  · rcases (show j = pos + 0 ∨ j = pos + 1 ∨ j = pos + 2 ∨ j = pos + 3 by omega) with rfl | rfl | rfl | rfl
    · exact h0
    · omega
    · omega
    · omega
theorem encode_high (r : Int) (h : 128 ≤ r) : (∃ b0 b1 : UInt8, Utf8.encode r = ⟨#[b0, b1]⟩ ∧ 128 ≤ b1.toNat) ∨ (∃ b0 b1 b2 : UInt8, Utf8.encode r = ⟨#[b0, b1, b2]⟩) ∨ ∃ b0 b1 b2 b3 : UInt8, Utf8.encode r = ⟨#[b0, b1, b2, b3]⟩ := by
  have hc : ∃ c : Nat, c = (if Utf8.valid r then r.toNat else Utf8.runeError) ∧ 128 ≤ c := by
    refine ⟨_, rfl, ?_⟩
    unfold Utf8.runeError
    split <;> omega
  obtain ⟨c, hc, h8⟩ := hc
  unfold Utf8.encode
  simp only [← hc]
  rw [if_neg (by omega)]
  by_cases h2 : c < 2048
  · rw [if_pos h2]
    refine .inl ⟨_, _, rfl, ?_⟩
    have := Nat.mod_lt c (show 64 > 0 by decide)
    simp only [UInt8.toNat_ofNat']
    omega
  · rw [if_neg h2]
    by_cases h3 : c < 65536
    · rw [if_pos h3]
      exact .inr (.inl ⟨_, _, _, rfl⟩)
    · rw [if_neg h3]
      exact .inr (.inr ⟨_, _, _, _, rfl⟩)
set_option maxHeartbeats 8000000 in
set_option maxRecDepth 1000000 in
theorem indexRune_high (r : Int) (h : 128 ≤ r) (h2 : r ≤ 2147483647) (w : World) :
    Calls Tryd.prog 34 #[.string ⟨#[47, 0]⟩, .int .i32 r] w fun e w' => e = .returned (.int .i64 (-1)) ∧ Below w.heap.size w w' := by
  have hr128 : decide (r < 128) = false := decide_eq_false (by omega)
  have hr0 : decide (0 ≤ r) = true := decide_eq_true (by omega)
  by_cases he : r = 65533
  · subst he
    go_enter Tryd.func34, Tryd.ntmps34
    go_wp2
    have n0 : ∀ ty, (Instr.next (.pointer (some ⟨w.heap.size, 0, none⟩)) true ty).run Tryd.prog (w.iter ⟨#[47, 0]⟩ 0) = .ok (.tuple #[.bool true, .int .i64 0, .int .i32 47]) (w.iter ⟨#[47, 0]⟩ 1) :=
      fun ty => run_next_ascii (P := Tryd.prog) w (⟨#[47, 0]⟩ : ByteArray) 0 ty (by decide) (by decide)
    have n1 : ∀ ty, (Instr.next (.pointer (some ⟨w.heap.size, 0, none⟩)) true ty).run Tryd.prog (w.iter ⟨#[47, 0]⟩ 1) = .ok (.tuple #[.bool true, .int .i64 1, .int .i32 0]) (w.iter ⟨#[47, 0]⟩ 2) :=
      fun ty => run_next_ascii (P := Tryd.prog) w (⟨#[47, 0]⟩ : ByteArray) 1 ty (by decide) (by decide)
    have n2 := fun ty => run_next_end (P := Tryd.prog) w (⟨#[47, 0]⟩ : ByteArray) 2 ty (by decide)
    refine wp_loop_rounds 3 ?_
    rw [rounds_succ]
    go_wp2
    rw [rounds_succ]
    go_wp2
    rw [rounds_succ]
    go_wp2
    go_ret
    exact ⟨rfl, below_alloc (Below.refl _ _) _⟩
  · have he2 : (r == 65533) = false := beq_eq_false_iff_ne.2 he
    cases hv : Lib.validRune r
    · go_enter Tryd.func34, Tryd.ntmps34
      go_wp2_with (go_at_call 48; refine (Tryd.utf8_ValidRune _ _).mono ?_; rintro e_ w' ⟨rfl, rfl⟩; rw [hv])
      go_ret
      exact ⟨rfl, Below.refl _ _⟩
    · rcases encode_high r h with ⟨b0, b1, hb, hb1⟩ | ⟨b0, b1, b2, hb⟩ | ⟨b0, b1, b2, b3, hb⟩
      · go_enter Tryd.func34, Tryd.ntmps34
        go_wp2_with (go_at_call 48; refine (Tryd.utf8_ValidRune _ _).mono ?_; rintro e_ w' ⟨rfl, rfl⟩; rw [hv])
        go_step3
        go_wp2
        refine wp_loop_rounds 1 ?_
        rw [rounds_succ]
        go_wp2
        go_step3
        go_upto_region 6 with (fail)
        refine start_ (n := 7) (S := fun _ => True) (ds := []) #[false, false, false, false, false, false, false] (by kernel_rfl) rfl rfl trivial (fun hHeld => ?_)
        refine pure_ (i := 0) (N := some 27) (v := ?_) (a' := ?_) #[true, false, false, false, false, false, false] rfl rfl (by kernel_rfl) (fun _ _ _ h => h) (Or.inl ⟨by rfl, ?_⟩) ?_ ?_
        rotate_left
        · intro w'
          go_simp
          with_reducible rfl
        rotate_left
        · simp only [Act.put, List.setIfInBounds_toArray, List.set_cons_zero, List.set_cons_succ, i64_w, i32_w]
          rfl
        refine pure_ (i := 1) (N := some 28) (v := ?_) (a' := ?_) #[true, true, false, false, false, false, false] rfl rfl (by kernel_rfl) (fun _ _ _ h => h) (Or.inl ⟨by rfl, ?_⟩) ?_ ?_
        rotate_left
        · intro w'
          go_simp
          with_reducible rfl
        rotate_left
        · simp only [Act.put, List.setIfInBounds_toArray, List.set_cons_zero, List.set_cons_succ, i64_w, i32_w]
          rfl
        refine pure_ (i := 2) (N := some 29) (v := ?_) (a' := ?_) #[true, true, true, false, false, false, false] rfl rfl (by kernel_rfl) (fun _ _ _ h => h) (Or.inl ⟨by rfl, ?_⟩) ?_ ?_
        rotate_left
        · intro w'
          go_simp
          with_reducible rfl
        rotate_left
        · simp only [Act.put, List.setIfInBounds_toArray, List.set_cons_zero, List.set_cons_succ, i64_w, i32_w]
          rfl
        refine pure_ (i := 3) (N := some 30) (v := ?_) (a' := ?_) #[true, true, true, true, false, false, false] rfl rfl (by kernel_rfl) (fun _ _ _ h => h) (Or.inl ⟨by rfl, ?_⟩) ?_ ?_
        rotate_left
        · intro w'
          go_simp
          with_reducible rfl
        rotate_left
        · simp only [Act.put, List.setIfInBounds_toArray, List.set_cons_zero, List.set_cons_succ, i64_w, i32_w]
          rfl
        refine pure_ (i := 4) (N := some 31) (v := ?_) (a' := ?_) #[true, true, true, true, true, false, false] rfl rfl (by kernel_rfl) (fun _ _ _ h => h) (Or.inl ⟨by rfl, ?_⟩) ?_ ?_
        rotate_left
        · intro w'
          go_simp
          with_reducible rfl
        rotate_left
        · simp only [Act.put, List.setIfInBounds_toArray, List.set_cons_zero, List.set_cons_succ, i64_w, i32_w]
          rfl
        refine pure_ (i := 5) (N := some 32) (v := ?_) (a' := ?_) #[true, true, true, true, true, true, false] rfl rfl (by kernel_rfl) (fun _ _ _ h => h) (Or.inl ⟨by rfl, ?_⟩) ?_ ?_
        rotate_left
        · intro w'
          go_simp
          with_reducible rfl
        rotate_left
        · simp only [Act.put, List.setIfInBounds_toArray, List.set_cons_zero, List.set_cons_succ, i64_w, i32_w]
          rfl
        refine pure_ (i := 6) (N := some 33) (v := ?_) (a' := ?_) #[true, true, true, true, true, true, true] rfl rfl (by kernel_rfl) (fun _ _ _ h => h) (Or.inl ⟨by rfl, ?_⟩) ?_ ?_
        rotate_left
        · intro w'
          go_simp
          with_reducible rfl
        rotate_left
        · simp only [Act.put, List.setIfInBounds_toArray, List.set_cons_zero, List.set_cons_succ, i64_w, i32_w]
          rfl
        refine done_ (by kernel_rfl) ?_
        have hne : ((((⟨#[47, 0]⟩ : ByteArray)[1]'(show 1 < 2 by decide)).toNat : Int) != (((⟨#[b0, b1]⟩ : ByteArray)[1]'(show 1 < 2 by decide)).toNat : Int)) = true := bne_iff_ne.2 (show (0 : Int) ≠ (b1.toNat : Int) by omega)
        have hw2 : wrap64 (2 : Int) = 2 := by unfold wrap64; omega
        go_upto_region 7 with (fail)
        refine start_ (n := 9) (S := fun W' => Below w'.heap.size w' W') (ds := []) #[false, false, false, false, false, false, false, false, false] (by kernel_rfl) rfl rfl (below_drew (below_drew (Below.refl _ _))) (fun hHeld => ?_)
        refine pure_ (i := 0) (N := some 34) (v := ?_) (a' := ?_) #[true, false, false, false, false, false, false, false, false] rfl rfl (by kernel_rfl) (fun _ _ _ h => h) (Or.inl ⟨by rfl, ?_⟩) ?_ ?_
        rotate_left
        · intro w'
          go_simp
          with_reducible rfl
        rotate_left
        · simp only [Act.put, List.setIfInBounds_toArray, List.set_cons_zero, List.set_cons_succ, i64_w, i32_w]
          rfl
        refine pure_ (i := 1) (N := some 35) (v := ?_) (a' := ?_) #[true, true, false, false, false, false, false, false, false] rfl rfl (by kernel_rfl) (fun _ _ _ h => h) (Or.inl ⟨by rfl, ?_⟩) ?_ ?_
        rotate_left
        · intro w'
          go_simp
          with_reducible rfl
        rotate_left
        · simp only [Act.put, List.setIfInBounds_toArray, List.set_cons_zero, List.set_cons_succ, i64_w, i32_w]
          rfl
        refine pure_ (i := 2) (N := some 36) (v := ?_) (a' := ?_) #[true, true, true, false, false, false, false, false, false] rfl rfl (by kernel_rfl) (fun _ _ _ h => h) (Or.inl ⟨by rfl, ?_⟩) ?_ ?_
        rotate_left
        · intro w'
          go_simp
          with_reducible rfl
        rotate_left
        · simp only [Act.put, List.setIfInBounds_toArray, List.set_cons_zero, List.set_cons_succ, i64_w, i32_w]
          rfl
        refine pure_ (i := 3) (N := some 37) (v := ?_) (a' := ?_) #[true, true, true, true, false, false, false, false, false] rfl rfl (by kernel_rfl) (fun _ _ _ h => h) (Or.inl ⟨by rfl, ?_⟩) ?_ ?_
        rotate_left
        · intro w'
          go_simp
          with_reducible rfl
        rotate_left
        · simp only [Act.put, List.setIfInBounds_toArray, List.set_cons_zero, List.set_cons_succ, i64_w, i32_w]
          rfl
        refine pure_ (i := 4) (N := some 38) (v := ?_) (a' := ?_) #[true, true, true, true, true, false, false, false, false] rfl rfl (by kernel_rfl) (fun _ _ _ h => h) (Or.inl ⟨by rfl, ?_⟩) ?_ ?_
        rotate_left
        · intro w'
          go_simp
          with_reducible rfl
        rotate_left
        · simp only [Act.put, List.setIfInBounds_toArray, List.set_cons_zero, List.set_cons_succ, i64_w, i32_w]
          rfl
        refine pure_ (i := 5) (N := some 39) (v := ?_) (a' := ?_) #[true, true, true, true, true, true, false, false, false] rfl rfl (by kernel_rfl) (fun _ _ _ h => h) (Or.inl ⟨by rfl, ?_⟩) ?_ ?_
        rotate_left
        · intro w'
          go_simp
          with_reducible rfl
        rotate_left
        · simp only [Act.put, List.setIfInBounds_toArray, List.set_cons_zero, List.set_cons_succ, i64_w, i32_w]
          rfl
        refine pure_ (i := 6) (N := some 40) (v := ?_) (a' := ?_) #[true, true, true, true, true, true, true, false, false] rfl rfl (by kernel_rfl) (fun _ _ _ h => h) (Or.inl ⟨by rfl, ?_⟩) ?_ ?_
        rotate_left
        · intro w'
          go_simp
          with_reducible rfl
        rotate_left
        · simp only [Act.put, List.setIfInBounds_toArray, List.set_cons_zero, List.set_cons_succ, i64_w, i32_w]
          rfl
        refine one_ (i := 7) (N := some 41) #[true, true, true, true, true, true, true, true, false] rfl rfl (by kernel_rfl) (by decide) (fun K hK => ?_)
        skip
        refine goes_ Tryd.func47 (by kernel_rfl) rfl #[.string ⟨#[]⟩, .int .u8 b1.toNat] (by rfl) rfl rfl (by (simp only [List.map_toArray, List.map_cons, List.map_nil]); rfl) ?_
        refine (Tryd.strings_IndexByte _ _ _).mono ?_
        rintro e_ W1 ⟨rfl, rfl⟩
        refine ⟨_, rfl, ?_⟩
        refine hK.out _ _ hHeld (fun hHeld => ?_)
        clear hK K
        refine norm_ (a' := ?_) ?_ ?_
        rotate_left
        · show Act.put _ (some 41) _ = _
          simp only [Act.put, List.setIfInBounds_toArray, List.set_cons_zero, List.set_cons_succ, i64_w, i32_w]
          rfl
        refine pure_ (i := 8) (N := some 11) (v := ?_) (a' := ?_) #[true, true, true, true, true, true, true, true, true] rfl rfl (by kernel_rfl) (fun _ _ _ h => h) (Or.inl ⟨by rfl, ?_⟩) ?_ ?_
        rotate_left
        · intro w'
          go_simp
          with_reducible rfl
        rotate_left
        · simp only [Act.put, List.setIfInBounds_toArray, List.set_cons_zero, List.set_cons_succ, i64_w, i32_w]
          rfl
        refine done_ (by kernel_rfl) ?_
        go_wp2
        simp only [Exit.noGoto_ret, Exit.inBlock, Exit.then]
        go_ret
        exact ⟨rfl, hHeld⟩
      · go_enter Tryd.func34, Tryd.ntmps34
        go_wp2_with (go_at_call 48; refine (Tryd.utf8_ValidRune _ _).mono ?_; rintro e_ w' ⟨rfl, rfl⟩; rw [hv])
        go_step3
        go_wp2
        refine wp_loop_rounds 1 ?_
        rw [rounds_succ]
        go_wp2
        rw [Exit.noGoto_ret]
        go_ret
        exact ⟨rfl, Below.refl _ _⟩
      · go_enter Tryd.func34, Tryd.ntmps34
        go_wp2_with (go_at_call 48; refine (Tryd.utf8_ValidRune _ _).mono ?_; rintro e_ w' ⟨rfl, rfl⟩; rw [hv])
        go_step3
        go_wp2
        refine wp_loop_rounds 1 ?_
        rw [rounds_succ]
        go_wp2
        rw [Exit.noGoto_ret]
        go_ret
        exact ⟨rfl, Below.refl _ _⟩
end
end Go.Proofs.YtbmginkdlcpnpaaDoor.Wk
end
section
namespace Go.Proofs.YtbmginkdlcpnpaaDoor.Wk
open Go.RowKit Go.Proofs.YtbmginkdlcpnpaaDoorW.PrintWords Go.Proofs.YtbmginkdlcpnpaaDoorW.PrintLast Go.Proofs.YtbmginkdlcpnpaaDoorW.PrintMore
attribute [local go_sem] max2_int min2_int max_two min_two max_three min_three max_four min_four
set_option linter.unusedVariables false
set_option linter.unusedSimpArgs false
section
open Go.RowKit Go.Lib
theorem bt_data (s : ByteArray) (i : Nat) (h : i < s.size) : s.data.toList[i]? = some (s.get! i) := by
  rw [Lib.data_getElem? s i h]
  congr 1
  simpa using (get_at s i h).symm
theorem sepsHigh (x : UInt8) (h : 128 ≤ x.toNat) : ([47, 0] : List UInt8).contains x = false := by
  have h1 : x ≠ 47 := by rintro rfl; simp at h
  have h2 : x ≠ 0 := by rintro rfl; simp at h
  simp [h1, h2]
set_option maxHeartbeats 8000000 in
set_option maxRecDepth 1000000 in
theorem indexAny_short (s : ByteArray) (w : World) (h8 : s.size ≤ 8) :
    Calls Tryd.prog 27 #[.string s, .string ⟨#[47, 0]⟩] w fun e w' => e = .returned (.int .i64 (Lib.indexAny s.data.toList [47, 0])) ∧ Below w.heap.size w w' := by
  have h8z : decide ((8 : Int) < (s.size : Int)) = false := decide_eq_false (by omega)
  go_enter Tryd.func27, Tryd.ntmps27
  go_wp2_with (go_at_call 35; refine (Tryd.strings_shouldUseASCIISet _ _).mono ?_; rintro e_ w' ⟨rfl, rfl⟩; rw [h8z])
  go_loopg [9, 10] s.size (fun g _ _ wx => ∃ i : Nat, s.size ≤ i + g ∧ i ≤ s.size ∧ wx.heap[w'.heap.size]? = some (.stringIter s i) ∧ Aside0 (Below w'.heap.size w' wx) ∧ Aside (Lib.NoAny s.data.toList [47, 0] i))
  case atStart => exact ⟨0, by omega, by omega, World.alloc_heap_new _ _, ⟨below_alloc (Below.refl _ _) _⟩, Lib.NoAny.zero _ _⟩
  case round =>
    obtain ⟨i, hig, his, hit, HB, hno⟩ := hrel
    have HN : Aside (Lib.NoAny s.data.toList [47, 0] i) := hno
    clear hno
    by_cases hlt : i < s.size
    · obtain ⟨g, rfl⟩ : ∃ g, gk = g + 1 := ⟨gk - 1, by omega⟩
      obtain ⟨x, hx⟩ : ∃ x : UInt8, s[i]'hlt = x := ⟨_, rfl⟩
      have hxl : s.data.toList[i]? = some x := by rw [← hx]; exact Lib.data_getElem? s i hlt
      by_cases hx128 : x.toNat < 128
      · have hnx := fun ty => Lib.run_next_ascii_at (P := Tryd.prog) wr w'.heap.size s i ty hit hlt (by rw [hx]; exact hx128)
        rw [hx] at hnx
        have hit2 := Lib.iterAt_heap wr w'.heap.size s i (i + 1) hit
        have HB2 := Aside0.mk (Lib.below_iterAt HB.out (k := w'.heap.size) (Nat.le_refl _) s (i + 1))
        obtain ⟨W, hWd⟩ : ∃ W, wr.iterAt w'.heap.size s (i + 1) = W := ⟨_, rfl⟩
        rw [hWd] at hnx hit2 HB2
        have Hx : Aside (s.data.toList[i]? = some x) := hxl
        clear hxl hx hit hWd
        have hcon := Lib.contains_iff_indexByte [47, 0] x
        have hback : ((x.toNat : Int)).toNat.toUInt8 = x := by simp
        cases hin : ([47, 0] : List UInt8).contains x
        · rw [hin] at hcon
          have hlt : ¬ ((0 : Int) ≤ Lib.indexByte [47, 0] x) := of_decide_eq_false hcon.symm
          clear hcon
          go_wp2_with (go_at_call 34; refine (Tryd.strings_IndexRune_ascii _ _ _ (by omega) (by omega)).mono ?_; rintro e w2 ⟨rfl, rfl⟩; rw [hback])
          go_roundg g
          case measure => omega
          case rel => exact ⟨i + 1, by omega, by omega, hit2, HB2, HN.out.succ Hx.out hin⟩
        · rw [hin] at hcon
          have hge : (0 : Int) ≤ Lib.indexByte [47, 0] x := of_decide_eq_true hcon.symm
          clear hcon
          go_wp2_with (go_at_call 34; refine (Tryd.strings_IndexRune_ascii _ _ _ (by omega) (by omega)).mono ?_; rintro e w2 ⟨rfl, rfl⟩; rw [hback])
          go_ret
          exact ⟨by rw [Lib.indexAny_hit HN.out Hx.out hin]; rfl, HB2.out⟩
      · have hnx := fun ty => Lib.run_next_any_at (P := Tryd.prog) wr w'.heap.size s i ty hit hlt
        obtain ⟨hov1, hov2⟩ := decode_over s i hlt (by rw [hx]; omega)
        obtain ⟨hd1, hd2⟩ := decode_high s i hlt (by rw [hx]; omega)
        have hd3 := decode_le s i
        obtain ⟨R, hR⟩ : ∃ R, (Utf8.decode s i).1 = R := ⟨_, rfl⟩
        obtain ⟨K, hK⟩ : ∃ K, (Utf8.decode s i).2 = K := ⟨_, rfl⟩
        rw [hR, hK] at hnx
        rw [hK] at hov1 hov2 hd2
        rw [hR] at hd1 hd3
        have hit2 := Lib.iterAt_heap wr w'.heap.size s i (i + K) hit
        have HB2 := Aside0.mk (Lib.below_iterAt HB.out (k := w'.heap.size) (Nat.le_refl _) s (i + K))
        obtain ⟨W, hWd⟩ : ∃ W, wr.iterAt w'.heap.size s (i + K) = W := ⟨_, rfl⟩
        rw [hWd] at hnx hit2 HB2
        have hno2 : Lib.NoAny s.data.toList [47, 0] (i + K) := fun j b hj hb => by
          by_cases hji : j < i
          · exact HN.out j b hji hb
          · have := hov2 j (by omega) hj
            rw [bt_data s j (by omega)] at hb
            cases hb
            exact sepsHigh _ this
        have HN2 : Aside (Lib.NoAny s.data.toList [47, 0] (i + K)) := hno2
        clear hno2 hov2 HN hxl hx hit hWd hR hK
        go_wp2_with (go_at_call 34; refine (indexRune_high _ (by omega) (by omega) _).mono ?_; rintro e w2 ⟨rfl, hbw⟩; have hit3 := (hbw.block _ (Array.getElem?_eq_some_iff.1 hit2).1).trans hit2; have HB3 := Aside0.mk (HB2.out.trans (hbw.mono HB2.out.size)); clear hbw)
        go_roundg g
        case measure => omega
        case rel => exact ⟨i + K, by omega, by omega, hit3, HB3, HN2⟩
    · obtain rfl : i = s.size := by omega
      have hnx := fun ty => Lib.run_next_end_at (P := Tryd.prog) wr w'.heap.size s s.size ty hit (by omega)
      go_wp2
      go_ret
      exact ⟨by rw [Lib.indexAny_none (by rw [← Lib.size_eq]; exact HN.out)]; rfl, HB.out⟩
theorem containsAny_seps (s : ByteArray) (w : World) (hs : s.size < 4294967281) :
    Calls Tryd.prog 20 #[.string s, .string ⟨#[47, 0]⟩] w fun e w' => e = .returned (.bool (Lib.containsAny s.data.toList [47, 0])) ∧ Below w.heap.size w w' := by
  have hc : Calls Tryd.prog 27 #[.string s, .string ⟨#[47, 0]⟩] w fun e w' => e = .returned (.int .i64 (Lib.indexAny s.data.toList [47, 0])) ∧ Below w.heap.size w w' := by
    by_cases h8 : s.size ≤ 8
    · exact indexAny_short s w h8
    · refine (Tryd.strings_IndexAny_long (zero_of_info (n := 256) (by kernel_rfl)).1 s ⟨#[47, 0]⟩ w (by decide) (by omega) hs (by decide) ?_).mono ?_
      · intro j b hb
        rcases j with _ | _ | j <;> simp at hb <;> subst hb <;> decide
      · rintro e w' ⟨rfl, rfl⟩
        exact ⟨rfl, below_alloc (below_alloc (Below.refl _ _) _) _⟩
  go_enter Tryd.func20, Tryd.ntmps20
  go_wp2_with (go_at_call 27; refine hc.mono ?_; rintro e w' ⟨rfl, hw⟩)
  go_ret
  exact ⟨rfl, hw⟩
end
end Go.Proofs.YtbmginkdlcpnpaaDoor.Wk
end
section
namespace Go.Proofs.YtbmginkdlcpnpaaDoor.Wk
open Go.RowKit Go.Proofs.YtbmginkdlcpnpaaDoorW.PrintWords Go.Proofs.YtbmginkdlcpnpaaDoorW.PrintLast Go.Proofs.YtbmginkdlcpnpaaDoorW.PrintMore
attribute [local go_sem] max2_int min2_int max_two min_two max_three min_three max_four min_four
set_option linter.unusedVariables false
set_option linter.unusedSimpArgs false
section
open Go.RowKit Go.Lib
def goodName (s : ByteArray) : Bool := !s.toList.isEmpty && decide (s.size ≤ 64) && !(s.toList == [46]) && !(s.toList == [46, 46]) && !(Lib.containsAny s.data.toList [47, 0])
set_option maxHeartbeats 4000000 in
theorem name_calls (s : ByteArray) (w : World) :
    Calls Tryd.prog 10 #[.string s] w fun e w' => e = .returned (.bool (goodName s)) ∧ Below w.heap.size w w' := by
  by_cases h1 : s.toList.isEmpty
  · have h0 : s.toList = [] := by simpa using h1
    go_enter Tryd.func10, Tryd.ntmps10
    go_wp2_with (go_at_call 20; fail)
    go_ret
    exact ⟨by simp [goodName, h1], Below.refl _ _⟩
  · have h0 : ¬ s.toList = [] := by simpa using h1
    replace h1 : s.toList.isEmpty = false := by simpa using h1
    by_cases h2 : s.size ≤ 64
    · have h2i : decide ((s.size : Int) ≤ 64) = true := decide_eq_true (by omega)
      by_cases h3 : s.toList = [46]
      · have h3b : (s.toList == [46]) = true := by simpa using h3
        go_enter Tryd.func10, Tryd.ntmps10
        go_wp2_with (go_at_call 20; fail)
        go_ret
        exact ⟨by simp [goodName, h3b], Below.refl _ _⟩
      · have h3b : (s.toList == [46]) = false := by simpa using h3
        by_cases h4 : s.toList = [46, 46]
        · have h4b : (s.toList == [46, 46]) = true := by simpa using h4
          go_enter Tryd.func10, Tryd.ntmps10
          go_wp2_with (go_at_call 20; fail)
          go_ret
          exact ⟨by simp [goodName, h4b], Below.refl _ _⟩
        · have h4b : (s.toList == [46, 46]) = false := by simpa using h4
          have hc : Lib.containsAny s.data.toList [47, 0] = !goodName s := by simp [goodName, h1, h2, h3b, h4b]
          go_enter Tryd.func10, Tryd.ntmps10
          go_wp2_with (go_at_call 20; refine (containsAny_seps s _ (by omega)).mono ?_; rintro e w' ⟨rfl, hw⟩; rw [hc])
          go_ret
          exact ⟨rfl, hw⟩
    · have h2i : decide ((s.size : Int) ≤ 64) = false := decide_eq_false (by omega)
      go_enter Tryd.func10, Tryd.ntmps10
      go_wp2_with (go_at_call 20; fail)
      go_ret
      exact ⟨by simp [goodName, h1, h2], Below.refl _ _⟩
end
end Go.Proofs.YtbmginkdlcpnpaaDoor.Wk
end
section
namespace Go.Proofs.YtbmginkdlcpnpaaDoor.Wk
open Go.RowKit Go.Proofs.YtbmginkdlcpnpaaDoorW.PrintWords Go.Proofs.YtbmginkdlcpnpaaDoorW.PrintLast Go.Proofs.YtbmginkdlcpnpaaDoorW.PrintMore
attribute [local go_sem] max2_int min2_int max_two min_two max_three min_three max_four min_four
set_option linter.unusedVariables false
set_option linter.unusedSimpArgs false
section
open Go.RowKit Go.Lib Go.Proofs.YtbmginkdlcpnpaaDoorQ
attribute [local go_sem] Oper.semAt_some
def parseStep (acc : List ByteArray) (p : ByteArray) : Except (Nat × Int) (List ByteArray) :=
  if p.toList.isEmpty then .ok acc else if (p.toList == [46]) = true then .ok acc else if goodName p = false then .error (acc.length, 8) else if acc.length = 16 then .error (acc.length, 3) else .ok (acc ++ [p])
def parseL : List ByteArray → List ByteArray → Except (Nat × Int) (List ByteArray)
  | acc, [] => .ok acc
  | acc, p :: ps => match parseStep acc p with
    | .ok a => parseL a ps
    | .error e => .error e
theorem parseL_append : ∀ (xs ys acc : List ByteArray), parseL acc (xs ++ ys) = match parseL acc xs with | .ok a => parseL a ys | .error e => .error e
  | [], ys, acc => rfl
  | x :: xs, ys, acc => by
    simp only [List.cons_append, parseL]
    cases parseStep acc x with
    | ok a => exact parseL_append xs ys a
    | error e => rfl
theorem parseL_snoc {pre : List ByteArray} {acc : List ByteArray} (h : parseL [] pre = .ok acc) (x : ByteArray) : parseL [] (pre ++ [x]) = parseStep acc x := by
  rw [parseL_append, h]
  show parseL acc [x] = _
  unfold parseL
  cases parseStep acc x <;> rfl
theorem parseL_prefix {pre xs : List ByteArray} {e : Nat × Int} (hp : pre <+: xs) (h : parseL [] pre = .error e) : parseL [] xs = .error e := by
  obtain ⟨t, rfl⟩ := hp
  rw [parseL_append, h]
def parseF (s : ByteArray) : Except (Nat × Int) (List ByteArray) :=
  if 1024 < s.size then .error (0, 3) else if Lib.hasPrefix s.data.toList [47] = false then .error (0, 9) else parseL [] (partsB (s.extract 1 s.size))
def ParseAns (w : World) (r : Except (Nat × Int) (List ByteArray)) (e : Ending) (w' : World) : Prop :=
  match r with
  | .ok l => ∃ v, e = .returned (.tuple #[v, .nilIface]) ∧ Kd.R Kd.string 9 w' w.heap.size (fun _ => True) v l ∧ l.length ≤ 16
  | .error (at_, why) => ∃ g, e = .returned (.tuple #[.slice none 0 0, .iface 57 (.pointer (some ⟨g, 0, none⟩))]) ∧ FaultAt w' g at_ why ∧ w.heap.size ≤ g ∧ at_ ≤ 16
theorem results_cells2 {P : Program} {fn : Func} {p p' : Tmp} {ty ty' : TypeId} (h : fn.results = #[.cell p ty, .cell p' ty']) (tmps : Array Value) (w : World) (a a' : Addr) (v v' : Value)
    (hp : tmps.getD p undef = .pointer (some a)) (hg : w.cell? a = some v) (hi : ∀ w, (isAgg ty).run P w = .ok false w)
    (hp' : tmps.getD p' undef = .pointer (some a')) (hg' : w.cell? a' = some v') (hi' : ∀ w, (isAgg ty').run P w = .ok false w) :
    (results fn tmps).run P w = .ok (.tuple #[v, v']) w := by
  have h1 : tmps[p]?.getD undef = .pointer (some a) := by simpa using hp
  have h2 : tmps[p']?.getD undef = .pointer (some a') := by simpa using hp'
  simp [results, h, h1, h2, asAddr, loadVar, hi, hi', hg, hg', Result.andThen]
theorem two_boxes {w w1 : World} {a b : Array Value} {s t : TypeId} (hb : Below ((w.alloc (.cells a s)).alloc (.cells b t)).heap.size ((w.alloc (.cells a s)).alloc (.cells b t)) w1) :
    w1.heap[w.heap.size]? = some (.cells a s (0, 0)) ∧ w1.heap[w.heap.size + 1]? = some (.cells b t (0, 0)) ∧ Below w.heap.size w w1 := by
  have h1 := World.alloc_heap_new w (.cells a s)
  have h2 := World.alloc_heap_new (w.alloc (.cells a s)) (.cells b t)
  rw [World.size_alloc] at h2
  refine ⟨?_, ?_, ?_⟩
  · rw [hb.block _ (by simp only [World.size_alloc]; omega), Below.heap_alloc _ _ _ (by simp only [World.size_alloc]; omega), h1]
  · rw [hb.block _ (by simp only [World.size_alloc]; omega), h2]
  · exact ((((Below.refl _ w).alloc (Nat.le_refl _) _).alloc (by simp only [World.size_alloc]; omega) _).trans (hb.mono (by simp only [World.size_alloc]; omega)))
theorem parse_ends {w w1 : World} {g : Nat} {at_ why : Int} (b2 : w1.heap[w.heap.size]? = some (.cells #[.slice none 0 0] 24 (0, 0))) (b3 : w1.heap[w.heap.size + 1]? = some (.cells #[.nilIface] 43 (0, 0))) (hf : FaultAt w1 g at_ why) (hg : w.heap.size + 2 ≤ g) (hb : Below w.heap.size w w1) :
    let W := (w1.setCell ⟨w.heap.size, 0, none⟩ (.slice none 0 0)).setCell ⟨w.heap.size + 1, 0, none⟩ (.iface 57 (.pointer (some ⟨g, 0, none⟩)))
    W.heap[w.heap.size]? = some (.cells #[.slice none 0 0] 24 (0, 0)) ∧ W.heap[w.heap.size + 1]? = some (.cells #[.iface 57 (.pointer (some ⟨g, 0, none⟩))] 43 (0, 0)) ∧ FaultAt W g at_ why ∧ Below w.heap.size w W := by
  intro W
  refine ⟨blk_far ((blk_set b2 0 _).trans rfl) (by simp) _, (blk_set (blk_far b3 (by simp) _) 0 _).trans rfl, ?_, (hb.setCell (p := ⟨w.heap.size, 0, none⟩) (Nat.le_refl _) _).setCell (p := ⟨w.heap.size + 1, 0, none⟩) (Nat.le_succ _) _⟩
  exact blk_far (blk_far hf (by simp; omega) _) (by simp; omega) _
theorem six_allocs (w : World) (a b c d e f : Obj) : let W := (((((w.alloc a).alloc b).alloc c).alloc d).alloc e).alloc f
    W.heap[w.heap.size]? = some a ∧ W.heap[w.heap.size + 1]? = some b ∧ W.heap[w.heap.size + 2]? = some c ∧ W.heap[w.heap.size + 3]? = some d ∧ W.heap[w.heap.size + 4]? = some e ∧ W.heap[w.heap.size + 5]? = some f ∧ Below w.heap.size w W ∧ W.heap.size = w.heap.size + 6 := by
  intro W
  have h1 := World.alloc_heap_new w a
  have h2 := World.alloc_heap_new (w.alloc a) b
  have h3 := World.alloc_heap_new ((w.alloc a).alloc b) c
  have h4 := World.alloc_heap_new (((w.alloc a).alloc b).alloc c) d
  have h5 := World.alloc_heap_new ((((w.alloc a).alloc b).alloc c).alloc d) e
  have h6 := World.alloc_heap_new (((((w.alloc a).alloc b).alloc c).alloc d).alloc e) f
  simp only [World.size_alloc] at h2 h3 h4 h5 h6
  exact ⟨blk_alloc (blk_alloc (blk_alloc (blk_alloc (blk_alloc h1 _) _) _) _) _, blk_alloc (blk_alloc (blk_alloc (blk_alloc h2 _) _) _) _, blk_alloc (blk_alloc (blk_alloc h3 _) _) _, blk_alloc (blk_alloc h4 _) _, blk_alloc h5 _, h6, below_alloc (below_alloc (below_alloc (below_alloc (below_alloc (below_alloc (Below.refl _ _) _) _) _) _) _) _, by simp [W]⟩
structure ParseAt (w : World) (acc : List ByteArray) (v : Value) (W : World) : Prop where
  b4 : W.heap[w.heap.size + 2]? = some (.cells #[v] 24 (0, 0))
  b2 : W.heap[w.heap.size]? = some (.cells #[.slice none 0 0] 24 (0, 0))
  b3 : W.heap[w.heap.size + 1]? = some (.cells #[.nilIface] 43 (0, 0))
  row : Kd.R Kd.string 9 W w.heap.size (fun k => w.heap.size + 6 ≤ k) v acc
  low : Below w.heap.size w W
  size : w.heap.size + 6 ≤ W.heap.size
theorem ParseAt.step {w : World} {acc : List ByteArray} {v : Value} {A B : World} (h : ParseAt w acc v A) (hs : SameOn (fun k => ¬ k = w.heap.size + 3) A B) : ParseAt w acc v B :=
  ⟨(hs.same _ (by omega) (blk_lt h.b4)).trans h.b4, (hs.same _ (by omega) (blk_lt h.b2)).trans h.b2, (hs.same _ (by omega) (blk_lt h.b3)).trans h.b3, Kd.R_step h.row (fun k hk hl => hs.same k (by omega) hl), h.low.trans (hs.below (fun k hk => by omega) h.low.size), Nat.le_trans h.size hs.size⟩
theorem ParseAt.below {w : World} {acc : List ByteArray} {v : Value} {A B : World} (h : ParseAt w acc v A) (hb : Below A.heap.size A B) : ParseAt w acc v B := h.step (SameOn.of_below hb)
def ParseInv (w : World) (pre : List ByteArray) (W : World) : Prop :=
  ∃ acc v, parseL [] pre = .ok acc ∧ acc.length ≤ 16 ∧ ParseAt w acc v W
def ParseEnd (w : World) (pre : List ByteArray) (W : World) : Prop :=
  ∃ (at_ : Nat) (why : Int) (g : Nat), parseL [] pre = .error (at_, why) ∧ at_ ≤ 16 ∧ W.heap[w.heap.size]? = some (.cells #[.slice none 0 0] 24 (0, 0)) ∧ W.heap[w.heap.size + 1]? = some (.cells #[.iface 57 (.pointer (some ⟨g, 0, none⟩))] 43 (0, 0)) ∧
    FaultAt W g at_ why ∧ w.heap.size ≤ g ∧ Below w.heap.size w W
theorem parseInv_step (w : World) : ∀ pre A B, ParseInv w pre A → SameOn (fun k => ¬ k = w.heap.size + 3) A B → ParseInv w pre B := by
  rintro pre A B ⟨acc, v, h1, h2, h3⟩ hs
  exact ⟨acc, v, h1, h2, h3.step hs⟩
theorem parseInv_put (w : World) : ∀ pre A (l : Nat) (o o' : Obj), ParseInv w pre A → A.heap[l]? = some o → o.isCells = false → w.heap.size + 6 ≤ l → ParseInv w pre (A.putObj l o') := by
  rintro pre A l o o' ⟨acc, v, h1, h2, h3, h4, h5, h6, h7, h8⟩ hl ho hle
  refine ⟨acc, v, h1, h2, (World.putObj_heap_other (by omega)).trans h3, (World.putObj_heap_other (by omega)).trans h4, (World.putObj_heap_other (by omega)).trans h5, Kd.R_mono (Kd.R_step (Kd.R_bound h6) (fun k hk _ => ?_)) (fun k hk => hk.1), h7.trans ((SameOn.putObj (S := fun k => k < w.heap.size) _ _ _ (by omega)).below (fun k hk => hk) h7.size), by simpa using h8⟩
  refine World.putObj_heap_other ?_
  rintro rfl
  obtain ⟨_, _, _, q, _, cs, hc⟩ := hk
  rw [hc] at hl
  cases hl
  cases ho
theorem parseEnd_put (w : World) : ∀ pre A (l : Nat) (o o' : Obj), ParseEnd w pre A → A.heap[l]? = some o → o.isCells = false → w.heap.size + 6 ≤ l → ParseEnd w pre (A.putObj l o') := by
  rintro pre A l o o' ⟨at_, why, g, h1, h2, h4, h5, h6, h7, h8⟩ hl ho hle
  refine ⟨at_, why, g, h1, h2, (World.putObj_heap_other (by omega)).trans h4, (World.putObj_heap_other (by omega)).trans h5, ?_, h7, h8.trans ((SameOn.putObj (S := fun k => k < w.heap.size) _ _ _ (by omega)).below (fun k hk => hk) h8.size)⟩
  refine (World.putObj_heap_other ?_).trans h6
  rintro rfl
  unfold FaultAt at h6
  rw [h6] at hl
  cases hl
  cases ho
theorem parse_faulty {w W w1 : World} {acc : List ByteArray} {v : Value} {pre : List ByteArray} {g at_ : Nat} {why : Int} (hp : ParseAt w acc v W) (hb : Below W.heap.size W w1) (hf : FaultAt w1 g at_ why) (hg : W.heap.size ≤ g) (he : parseL [] pre = .error (at_, why)) (hle : at_ ≤ 16) :
    let W2 := (w1.setCell ⟨w.heap.size, 0, none⟩ (.slice none 0 0)).setCell ⟨w.heap.size + 1, 0, none⟩ (.iface 57 (.pointer (some ⟨g, 0, none⟩)))
    KeepsOthers W W2 ∧ ParseEnd w pre W2 := by
  intro W2
  have h1 := hp.below hb
  have hz := hp.size
  obtain ⟨e2, e3, ef, eb⟩ := parse_ends h1.b2 h1.b3 hf (by omega) h1.low
  refine ⟨?_, at_, why, g, he, hle, e2, e3, ef, by omega, eb⟩
  have hk : KeepsOthers W w1 := ⟨hb.size, fun k o ho _ => (hb.block k (Array.getElem?_eq_some_iff.1 ho).1).trans ho⟩
  exact (hk.trans (KeepsOthers.setCell _ _ _)).trans (KeepsOthers.setCell _ _ _)
theorem parse_taken {w W w1 w2 : World} {acc : List ByteArray} {v v2 : Value} {x : ByteArray} {T : Obj} (hp : ParseAt w acc v w1) (hw1 : Below W.heap.size W w1) (hz : w.heap.size + 6 ≤ W.heap.size)
    (ho : w2.ownsRow w.heap.size 9 1 v2 (acc.length + 1) (encs Value.string acc ++ [.string x])) (hg : (w1.alloc T).grownBy w2 v.ownBlock) (ha : v2.ownBlock = v.ownBlock ∨ v2.ownBlock = some (w1.alloc T).heap.size) :
    KeepsOthers W (w2.setCell ⟨w.heap.size + 2, 0, none⟩ v2) ∧ ParseAt w (acc ++ [x]) v2 (w2.setCell ⟨w.heap.size + 2, 0, none⟩ v2) ∧ SameOn (fun k => k = w.heap.size + 4 ∨ k = w.heap.size + 3 ∨ k = w.heap.size + 5) W (w2.setCell ⟨w.heap.size + 2, 0, none⟩ v2) := by
  have hrow := hp.row
  have hbk : ∀ k, v.ownBlock = some k → w.heap.size + 6 ≤ k := fun k e => hrow.1 k e
  have hbel : Below 0 (w1.alloc T) w2 := (Below.refl 0 _).grown hg (Nat.zero_le _) (fun k _ => Nat.zero_le _)
  have hs2 : SameOn (fun k => k < w.heap.size + 6) (w1.alloc T) w2 := SameOn.of_grown hg hbel (fun k e h => by have := hbk k e; omega)
  have hs1 : SameOn (fun k => k < w.heap.size + 6) W w2 := ((SameOn.of_below hw1).trans (SameOn.alloc _ w1 T)).trans hs2
  have hs12 : SameOn (fun k => k < w.heap.size + 6) w1 w2 := (SameOn.alloc _ w1 T).trans hs2
  have b4 : w2.heap[w.heap.size + 2]? = some (.cells #[v] 24 (0, 0)) := (hs12.same _ (by omega) (blk_lt hp.b4)).trans hp.b4
  have b2 := (hs12.same _ (by omega) (blk_lt hp.b2)).trans hp.b2
  have b3 := (hs12.same _ (by omega) (blk_lt hp.b3)).trans hp.b3
  refine ⟨?_, ⟨(blk_set b4 0 _).trans rfl, blk_far b2 (by simp) _, blk_far b3 (by simp) _, ?_, ?_, ?_⟩, ?_⟩
  · have hk : KeepsOthers W w1 := ⟨hw1.size, fun k o ho _ => (hw1.block k (Array.getElem?_eq_some_iff.1 ho).1).trans ho⟩
    refine ((hk.trans (KeepsOthers.alloc w1 T)).trans (KeepsOthers.of_grownBy hg (fun j o e hj => ?_))).trans (KeepsOthers.setCell _ _ _)
    obtain ⟨cells, hc⟩ := own_typed (Kd.own_of_R hrow) j e
    have hj2 := (Array.getElem?_eq_some_iff.1 hc).1
    rw [Below.heap_alloc _ _ _ hj2, hc] at hj
    cases hj
    rfl
  · have h1 : Kd.R Kd.string 9 w2 w.heap.size (fun k => w.heap.size + 6 ≤ k) v2 (acc ++ [x]) := by
      refine Kd.R_of_own ?_ (fun k hk => ?_)
      · rw [List.length_append, encs_append]
        exact ho
      · rcases ha with e | e
        · exact hbk k (by rw [← e]; exact hk)
        · rw [e, World.size_alloc] at hk
          cases hk
          have := hp.size
          omega
    exact Kd.R_far h1 (fun k hk => by simp; omega) _
  · exact (hp.low.trans (hs12.below (fun k hk => by omega) hp.low.size)).setCell (p := ⟨w.heap.size + 2, 0, none⟩) (Nat.le_add_right _ _) _
  · have := hs1.size
    simp only [World.size_setCell]
    omega
  · exact (hs1.mono (fun k hk => by omega)).trans (SameOn.setCell _ _ _ (by simp))
theorem R_putObj {α : Type} {d : Kd α} {e base : Nat} {ok : Nat → Prop} {v : Value} {xs : List α} {A : World} (h : d.R e A base ok v xs) (l : Nat) (o o' : Obj) (hl : A.heap[l]? = some o) (ho : o.isCells = false) : d.R e (A.putObj l o') base ok v xs := by
  refine Kd.R_mono (Kd.R_step (Kd.R_bound h) (fun k hk _ => ?_)) (fun k hk => hk.1)
  refine World.putObj_heap_other ?_
  rintro rfl
  obtain ⟨_, _, _, q, _, cs, hc⟩ := hk
  rw [hc] at hl
  cases hl
  cases ho
theorem parse_done {w W : World} {acc : List ByteArray} {v : Value} {D : Nat} (hp : ParseAt w acc v W) (hK : W.heap[D]? = some (.deferred (some []))) (hD : w.heap.size + 6 ≤ D) :
    let W4 := ((W.setCell ⟨w.heap.size, 0, none⟩ v).setCell ⟨w.heap.size + 1, 0, none⟩ .nilIface)
    W4.heap[D]? = some (.deferred (some [])) ∧ (W4.putObj D (.deferred none)).heap[w.heap.size]? = some (.cells #[v] 24 (0, 0)) ∧ (W4.putObj D (.deferred none)).heap[w.heap.size + 1]? = some (.cells #[.nilIface] 43 (0, 0)) ∧
      Kd.R Kd.string 9 (W4.putObj D (.deferred none)) w.heap.size (fun _ => True) v acc ∧ Below w.heap.size w (W4.putObj D (.deferred none)) := by
  intro W4
  have hk4 : W4.heap[D]? = some (.deferred (some [])) := by
    rw [Below.heap_setCell _ _ _ _ (by simp; omega), Below.heap_setCell _ _ _ _ (by simp; omega)]
    exact hK
  have hlow : Below w.heap.size w W4 := (hp.low.setCell (p := ⟨w.heap.size, 0, none⟩) (Nat.le_refl _) _).setCell (p := ⟨w.heap.size + 1, 0, none⟩) (Nat.le_succ _) _
  refine ⟨hk4, (World.putObj_heap_other (by omega)).trans (blk_far ((blk_set hp.b2 0 _).trans rfl) (by simp) _), (World.putObj_heap_other (by omega)).trans ((blk_set (blk_far hp.b3 (by simp) _) 0 _).trans rfl), ?_, ?_⟩
  · exact R_putObj (Kd.R_mono (Kd.R_far (Kd.R_far hp.row (fun k hk => by simp; omega) _) (fun k hk => by simp; omega) _) (fun _ _ => trivial)) D _ _ hk4 rfl
  · exact hlow.trans ((SameOn.putObj (S := fun k => k < w.heap.size) _ _ _ (by omega)).below (fun k hk => hk) hlow.size)
set_option maxHeartbeats 8000000 in
set_option maxRecDepth 100000 in
theorem parse_calls (s : ByteArray) (w : World) :
    Calls Tryd.prog 21 #[.string s] w fun e w' => ParseAns w (parseF s) e w' ∧ Below w.heap.size w w' := by
  unfold parseF
  by_cases hbig : 1024 < s.size
  · rw [if_pos hbig]
    have hb1 : decide ((1024 : Int) < (s.size : Int)) = true := decide_eq_true (by omega)
    go_enter Tryd.func21, Tryd.ntmps21
    go_wp2_with (go_at_call 25; refine (wrong_calls 0 3 _).mono ?_; rintro e_ w1 ⟨g, rfl, hf, hg, hw1⟩; obtain ⟨b2, b3, hb⟩ := two_boxes hw1; have HF := Aside0.mk hf; have HB := Aside0.mk hb; have HB2 := Aside0.mk b2; have HB3 := Aside0.mk b3; have c2 := fun i => blk_cell b2 i; have c3 := fun i => blk_cell b3 i; have f2 := fun i => blk_frozen b2 i; have f3 := fun i => blk_frozen b3 i; clear hf hb hw1 b2 b3)
    obtain ⟨e2, e3, ef, eb⟩ := parse_ends HB2.out HB3.out HF.out (by simpa using hg) HB.out
    refine bodyPost_ret (results_cells2 rfl _ _ ⟨w.heap.size, 0, none⟩ ⟨w.heap.size + 1, 0, none⟩ _ _ rfl ((blk_cell e2 0).trans rfl) Tryd.isAgg24 rfl ((blk_cell e3 0).trans rfl) Tryd.isAgg43) rfl ?_
    exact ⟨⟨g, rfl, ef, by simp at hg; omega, by decide⟩, eb⟩
  · rw [if_neg hbig]
    have hb1 : decide ((1024 : Int) < (s.size : Int)) = false := decide_eq_false (by omega)
    by_cases hsl : Lib.hasPrefix s.data.toList [47] = false
    · rw [if_pos hsl]
      go_enter Tryd.func21, Tryd.ntmps21
      go_wp2_with (first
        | (go_at_call 28; refine (Tryd.strings_HasPrefix s ⟨#[47]⟩ _).mono ?_; rintro e_ w1 ⟨rfl, rfl⟩; rw [show (⟨#[47]⟩ : ByteArray).data.toList = [47] from rfl, hsl])
        | (go_at_call 25; refine (wrong_calls 0 9 _).mono ?_; rintro e_ w1 ⟨g, rfl, hf, hg, hw1⟩; obtain ⟨b2, b3, hb⟩ := two_boxes hw1; have HF := Aside0.mk hf; have HB := Aside0.mk hb; have HB2 := Aside0.mk b2; have HB3 := Aside0.mk b3; have c2 := fun i => blk_cell b2 i; have c3 := fun i => blk_cell b3 i; have f2 := fun i => blk_frozen b2 i; have f3 := fun i => blk_frozen b3 i; clear hf hb hw1 b2 b3))
      obtain ⟨e2, e3, ef, eb⟩ := parse_ends HB2.out HB3.out HF.out (by simpa using hg) HB.out
      refine bodyPost_ret (results_cells2 rfl _ _ ⟨w.heap.size, 0, none⟩ ⟨w.heap.size + 1, 0, none⟩ _ _ rfl ((blk_cell e2 0).trans rfl) Tryd.isAgg24 rfl ((blk_cell e3 0).trans rfl) Tryd.isAgg43) rfl ?_
      exact ⟨⟨g, rfl, ef, by simp at hg; omega, by decide⟩, eb⟩
    · rw [if_neg hsl]
      replace hsl : Lib.hasPrefix s.data.toList [47] = true := by simpa using hsl
      have h1 : 1 ≤ s.size := by
        rw [Lib.size_eq]
        cases hd : s.data.toList with
        | nil => rw [hd] at hsl; simp [Lib.hasPrefix] at hsl
        | cons a l => simp
      have HSL := Aside0.mk hsl
      refine (callsIn_wide (n := 0)).1 (callsIn_of_wp_marks Tryd.func21 rfl trivial (wpIn_wide.2 ?_) rfl)
      simp only [Tryd.ntmps21, List.size_toArray, List.length_cons, List.length_nil, Nat.reduceAdd, Nat.reduceSub, Array.replicate_succ, Array.replicate_zero, List.push_toArray, List.append_toArray, List.nil_append, List.cons_append]
      go_wp2_with (first
        | (go_at_call 28; refine (Tryd.strings_HasPrefix s ⟨#[47]⟩ _).mono ?_; rintro e_ w1 ⟨rfl, rfl⟩; rw [show (⟨#[47]⟩ : ByteArray).data.toList = [47] from rfl, hsl])
        | (go_at_call 29; refine (parts_calls s _ h1).mono ?_; rintro e_ w1 ⟨rfl, rfl⟩))
      obtain ⟨g1, g2, g3, g4, g5, g6, g7, g8⟩ := six_allocs w (.cells #[.slice none 0 0] 24) (.cells #[.nilIface] 43) (.cells #[.slice none 0 0] 24) (.cells #[.string (s.extract 1 s.size)] 9) (.cells #[.string ⟨#[47]⟩] 9) (.cells #[.int .i64 0] 3)
      have hz : (s.extract 1 s.size).size < 4294967281 := by simp; omega
      generalize hr : s.extract 1 s.size = r at g1 g2 g3 g4 g5 g6 g7 g8 hz ⊢
      generalize ((((((w.alloc (.cells #[.slice none 0 0] 24)).alloc (.cells #[.nilIface] 43)).alloc (.cells #[.slice none 0 0] 24)).alloc (.cells #[.string r] 9)).alloc (.cells #[.string ⟨#[47]⟩] 9)).alloc (.cells #[.int .i64 0] 3)) = wl at g1 g2 g3 g4 g5 g6 g7 g8 ⊢
      have hI0 : ParseInv w [] wl := ⟨[], .slice none 0 0, rfl, Nat.zero_le _, ⟨g3, g1, g2, Kd.R_nil _ _ _ _ _, g7, by omega⟩⟩
      have hHand := split1_hands (w.heap.size + 4) (w.heap.size + 3) (w.heap.size + 5) r wl hz g5 g4 g6 (by omega) (by omega)
      clear g1 g2 g3 g4 g5 g6
      have hwl : w.heap.size + 6 ≤ wl.heap.size := by omega
      have HW := Aside0.mk g7
      refine wp_rangeStop (gf := 57) rfl (fun _ _ => rfl) hHand (fun k hk => by omega) (fun k hk => by omega)
        (ParseInv w) (ParseEnd w) (parseInv_step w) (fun pre A l o o' h hl ho hle => parseInv_put w pre A l o o' h hl ho (by omega)) (fun pre A l o o' h hl ho hle => parseEnd_put w pre A l o o' h hl ho (by omega)) hI0
        (fun x => { tmps := #[.string s, undef, .pointer (some ⟨w.heap.size, 0, none⟩), .pointer (some ⟨w.heap.size + 1, 0, none⟩), .pointer (some ⟨w.heap.size + 1 + 1, 0, none⟩), .string x, .bool false, .string s, .int .i64 s.size, .bool false, undef, .bool false, .string s, .bool true, .bool false, undef, .string s, .func (.func 57) #[] #[.pointer (some ⟨w.heap.size + 1 + 1 + 1 + 1, 0, none⟩), .pointer (some ⟨w.heap.size + 1 + 1 + 1, 0, none⟩), .pointer (some ⟨w.heap.size + 1 + 1 + 1 + 2, 0, none⟩)], .string x, undef, undef, undef, undef, undef, undef, undef, undef, undef, undef, undef, undef, undef, undef, undef, undef, undef, undef, undef, undef, undef, undef, undef, undef, undef, undef], defers := [] }) ?assign ?body ?done ?stop
      case assign =>
        intro l x W m K hK
        gi_wp2
        exact hK
      case body =>
        rintro l m pre x W ⟨acc, v, i1, i2, i3⟩ hpre
        have hstep := parseL_snoc i1 x
        by_cases k1 : x.toList.isEmpty
        · have k0 : x.toList = [] := by simpa using k1
          have hst : parseStep acc x = .ok acc := by simp [parseStep, k1]
          have HI : Aside0 (ParseInv w (pre ++ [x]) W) := ⟨⟨acc, v, by rw [hstep, hst], i2, i3⟩⟩
          clear i1 i2 i3 hstep hst
          gi_wp2
          exact ⟨KeepsOthers.refl _, HI.out, SameOn.refl _ _⟩
        · replace k1 : x.toList.isEmpty = false := by simpa using k1
          have k0 : ¬ x.toList = [] := by simpa using k1
          by_cases k2 : x.toList = [46]
          · have k2b : (x.toList == [46]) = true := by simpa using k2
            have hst : parseStep acc x = .ok acc := by simp [parseStep, k2b]
            have HI : Aside0 (ParseInv w (pre ++ [x]) W) := ⟨⟨acc, v, by rw [hstep, hst], i2, i3⟩⟩
            clear i1 i2 i3 hstep hst
            gi_wp2
            exact ⟨KeepsOthers.refl _, HI.out, SameOn.refl _ _⟩
          · have k2b : (x.toList == [46]) = false := by simpa using k2
            have HST := Aside0.mk hstep
            have HI2 := Aside0.mk i2
            have HP := Aside0.mk i3
            have hi8 := i3.size
            obtain ⟨A, c, rfl, -, -⟩ := Kd.R_reads i3.row
            clear hstep i1 i2 i3
            by_cases k3 : goodName x = false
            · have hst : parseStep acc x = .error (acc.length, 8) := by simp [parseStep, k1, k2b, k3]
              have HST2 := Aside0.mk (HST.out.trans hst)
              clear hst HST
              gi_wp2_with (first
                | (refine ⟨trivial, fun h => by simp [Fence.wide] at h, ?_⟩; gi_at_call 10; refine CallsIn.inRound l ((callsIn_wide.2 (name_calls x W)).mono ?_); rintro e_ w1 ⟨rfl, hw1⟩; rw [k3]; have HW1 := Aside0.mk hw1; have HP1 := Aside0.mk (HP.out.below hw1); have c4 := fun i => blk_cell HP1.out.b4 i; clear hw1)
                | (refine ⟨trivial, fun h => by simp [Fence.wide] at h, ?_⟩; gi_at_call 25; refine CallsIn.inRound l ((callsIn_wide.2 (wrong_calls _ 8 _)).mono ?_); rintro e_ w2 ⟨g, rfl, hf, hg, hw2⟩; have HF := Aside0.mk hf; have HG := Aside0.mk hg; have HW2 := Aside0.mk hw2; have HP2 := Aside0.mk (HP1.out.below hw2); have c2 := fun i => blk_cell HP2.out.b2 i; have c3 := fun i => blk_cell HP2.out.b3 i; have f2 := fun i => blk_frozen HP2.out.b2 i; have f3 := fun i => blk_frozen HP2.out.b3 i; clear hf hg hw2))
              exact parse_faulty HP.out (HW1.out.trans (HW2.out.mono HW1.out.size)) HF.out (Nat.le_trans HW1.out.size HG.out) HST2.out (by have := HI2.out; omega)
            · replace k3 : goodName x = true := by simpa using k3
              by_cases k4 : acc.length = 16
              · have k4b : ((acc.length : Int) == 16) = true := by simpa using (by omega : (acc.length : Int) = 16)
                have hst : parseStep acc x = .error (acc.length, 3) := by simp [parseStep, k1, k2b, k3, k4]
                have HST2 := Aside0.mk (HST.out.trans hst)
                have K4 := Aside0.mk k4
                clear hst HST k4
                gi_wp2_with (first
                  | (refine ⟨trivial, fun h => by simp [Fence.wide] at h, ?_⟩; gi_at_call 10; refine CallsIn.inRound l ((callsIn_wide.2 (name_calls x W)).mono ?_); rintro e_ w1 ⟨rfl, hw1⟩; rw [k3]; have HW1 := Aside0.mk hw1; have HP1 := Aside0.mk (HP.out.below hw1); have c4 := fun i => blk_cell HP1.out.b4 i; clear hw1)
                  | (refine ⟨trivial, fun h => by simp [Fence.wide] at h, ?_⟩; gi_at_call 25; refine CallsIn.inRound l ((callsIn_wide.2 (wrong_calls _ 3 _)).mono ?_); rintro e_ w2 ⟨g, rfl, hf, hg, hw2⟩; have HF := Aside0.mk hf; have HG := Aside0.mk hg; have HW2 := Aside0.mk hw2; have HP2 := Aside0.mk (HP1.out.below hw2); have c2 := fun i => blk_cell HP2.out.b2 i; have c3 := fun i => blk_cell HP2.out.b3 i; have f2 := fun i => blk_frozen HP2.out.b2 i; have f3 := fun i => blk_frozen HP2.out.b3 i; clear hf hg hw2))
                exact parse_faulty HP.out (HW1.out.trans (HW2.out.mono HW1.out.size)) HF.out (Nat.le_trans HW1.out.size HG.out) HST2.out (by have := HI2.out; omega)
              · have k4b : decide ((acc.length : Int) = 16) = false := decide_eq_false (by omega)
                have k4c : ((acc.length : Int) == 16) = false := by simpa using (by omega : ¬ (acc.length : Int) = 16)
                have k4d : ¬ (acc.length : Int) = 16 := by omega
                have hst : parseStep acc x = .ok (acc ++ [x]) := by simp [parseStep, k1, k2b, k3, k4]
                have HST2 := Aside0.mk (HST.out.trans hst)
                clear hst HST
                obtain ⟨i0, hi, hz2⟩ := Option.map_eq_some_iff.1 (show (Tryd.prog.info? 9).map (fun i => (i.zero, i.size, i.bytes)) = some (some (.string ⟨#[]⟩), 1, 16) by kernel_rfl)
                simp only [Prod.mk.injEq] at hz2
                have HZ := Aside0.mk hz2
                have HIN := Aside0.mk hi
                clear hz2 hi
                have hal := HI2.out
                gi_wp2_with (first
                  | (refine ⟨trivial, fun h => by simp [Fence.wide] at h, ?_⟩; gi_at_call 10; refine CallsIn.inRound l ((callsIn_wide.2 (name_calls x W)).mono ?_); rintro e_ w1 ⟨rfl, hw1⟩; rw [k3]; have HW1 := Aside0.mk hw1; have HP1 := Aside0.mk (HP.out.below hw1); have c4 := fun i => blk_cell HP1.out.b4 i; have HOWN := Aside0.mk (Kd.own_of_R HP1.out.row); clear hw1)
                  | (gi_at_builtin; refine wpListIn_append_at _ rfl _ _ 24 rfl w.heap.size 9 i0 (.string ⟨#[]⟩) 1 16 Tryd.underlying24 HIN.out HZ.out.1 HZ.out.2.1 HZ.out.2.2 rfl (by decide) _ _ _ rfl (HOWN.out.alloc _) ⟨w1.heap.size, 0, none⟩ 1 1 [.string x] rfl rfl (cell_one_new _ _ _) (by simp [Value.oneCell']) (by unfold maxLen; omega) (by omega) (by simp only [World.size_alloc]; have := HP1.out.size; omega) ?_; intro v2 w2 hown2 hgrow2 hat2; have HT := Aside0.mk (parse_taken HP1.out HW1.out hi8 hown2 hgrow2 hat2); obtain ⟨g2, cap2, rfl⟩ := ownsRow_succ hown2; have hs2 := SameOn.of_grown (S := fun k => k < w.heap.size + 6) hgrow2 ((Below.refl 0 _).grown hgrow2 (Nat.zero_le _) (fun k _ => Nat.zero_le _)) (fun k e h => by have := HP1.out.row.1 k e; omega); have b4 := (hs2.same _ (by omega) (Nat.lt_of_lt_of_le (blk_lt HP1.out.b4) (by simp))).trans (blk_alloc HP1.out.b4 _); have c44 := blk_cell b4 0; have f44 := blk_frozen b4 0; clear hown2 hgrow2 hat2 hs2 b4))
                exact ⟨HT.out.1, ⟨acc ++ [x], _, HST2.out, by simp; omega, HT.out.2.1⟩, HT.out.2.2⟩
      case done =>
        rintro D W ⟨acc, v, i1, i2, i3⟩ hD hK
        have HP := Aside0.mk i3
        have HK := Aside0.mk hK
        have HR := Aside0.mk (And.intro i1 i2)
        obtain ⟨A, c, rfl, -, -⟩ := Kd.R_reads i3.row
        have c4 := blk_cell i3.b4 0
        have c2 := blk_cell i3.b2 0
        have c3 := blk_cell i3.b3 0
        have f2 := blk_frozen i3.b2 0
        have f3 := blk_frozen i3.b3 0
        clear i1 i2 i3 hK
        go_wp2
        obtain ⟨e1, e2, e3, e4, e5⟩ := parse_done HP.out HK.out (by omega)
        refine ⟨by simp, .inl ⟨_, _, rfl, run_takeDeferred e1, ?_⟩⟩
        refine ⟨_, results_cells2 rfl _ _ ⟨w.heap.size, 0, none⟩ ⟨w.heap.size + 1, 0, none⟩ _ _ rfl ((blk_cell e2 0).trans rfl) Tryd.isAgg24 rfl ((blk_cell e3 0).trans rfl) Tryd.isAgg43, ?_⟩
        rw [hr, HR.out.1]
        exact ⟨⟨_, rfl, e4, HR.out.2⟩, e5⟩
      case stop =>
        rintro D pre W hpre ⟨at_, why, g, h1, h2, h3, h4, h5, h6, h7⟩ hD hK
        have HF := Aside0.mk (And.intro h1 (And.intro h2 (And.intro h3 (And.intro h4 (And.intro h5 (And.intro h6 h7))))))
        have HK := Aside0.mk hK
        clear h1 h2 h3 h4 h5 h6 h7 hK
        go_wp2
        refine ⟨by simp, .inl ⟨_, _, rfl, run_takeDeferred HK.out, ?_⟩⟩
        obtain ⟨h1, h2, h3, h4, h5, h6, h7⟩ := (parseEnd_put w pre W D _ (.deferred none) ⟨at_, why, g, HF.out⟩ HK.out rfl (by omega)).choose_spec.choose_spec.choose_spec
        refine ⟨_, results_cells2 rfl _ _ ⟨w.heap.size, 0, none⟩ ⟨w.heap.size + 1, 0, none⟩ _ _ rfl ((blk_cell h3 0).trans rfl) Tryd.isAgg24 rfl ((blk_cell h4 0).trans rfl) Tryd.isAgg43, ?_⟩
        rw [hr, parseL_prefix hpre h1]
        exact ⟨⟨_, rfl, h5, h6, h2⟩, h7⟩
end
end Go.Proofs.YtbmginkdlcpnpaaDoor.Wk
end
section
namespace Go.Proofs.YtbmginkdlcpnpaaDoor.Wk
open Go.RowKit Go.Proofs.YtbmginkdlcpnpaaDoorW.PrintWords Go.Proofs.YtbmginkdlcpnpaaDoorW.PrintLast Go.Proofs.YtbmginkdlcpnpaaDoorW.PrintMore
attribute [local go_sem] max2_int min2_int max_two min_two max_three min_three max_four min_four
set_option linter.unusedVariables false
set_option linter.unusedSimpArgs false
section
open Go.RowKit Go.Lib
def parseP (s : ByteArray) : List ByteArray × Int × Int := match parseF s with
  | .ok l => (l, 0, 0)
  | .error (a, y) => ([], a, y)
set_option maxHeartbeats 4000000 in
theorem parse2_calls (s : ByteArray) (w : World) (hl : Lay w) (l : List ByteArray) (a y : Int) (h : parseP s = (l, a, y)) :
    Calls Tryd.prog 13 #[.string s] w fun e w' => ∃ v, e = .returned (.tuple #[v, .int .i64 a, .int .i64 y]) ∧ Kd.R Kd.string 9 w' w.heap.size (fun _ => True) v l ∧ l.length ≤ 16 ∧ Below w.heap.size w w' := by
  have HL := Aside0.mk hl
  have HP := Aside0.mk h
  clear hl h
  unfold parseP at HP
  cases hf : parseF s with
  | ok l0 =>
    rw [hf] at HP
    obtain ⟨rfl, rfl, rfl⟩ : l0 = l ∧ (0 : Int) = a ∧ (0 : Int) = y := by simpa using HP.out
    clear HP
    go_enter Tryd.func13, Tryd.ntmps13
    go_wp2_with (first
      | (go_at_call 21; refine (parse_calls s _).mono ?_; rintro e_ w1 ⟨hans, hw1⟩; rw [hf] at hans; obtain ⟨v, rfl, hr, h16⟩ := hans; have HR := Aside0.mk hr; have H16 := Aside0.mk h16; have HW1 := Aside0.mk hw1; clear hr h16 hw1)
      | (go_at_call 22; refine (plain_nil _).mono ?_; rintro e_ w2 ⟨rfl, hw2⟩; have HW2 := Aside0.mk hw2; clear hw2))
    refine bodyPost_ret (results_tmp3 rfl _ _ _) rfl ?_
    exact ⟨v, rfl, Kd.R_below HR.out HW2.out, H16.out, HW1.out.trans (HW2.out.mono HW1.out.size)⟩
  | error p =>
    obtain ⟨a0, y0⟩ := p
    rw [hf] at HP
    obtain ⟨rfl, rfl, rfl⟩ : [] = l ∧ (a0 : Int) = a ∧ y0 = y := by simpa using HP.out
    clear HP
    go_enter Tryd.func13, Tryd.ntmps13
    go_wp2_with (first
      | (go_at_call 21; refine (parse_calls s _).mono ?_; rintro e_ w1 ⟨hans, hw1⟩; rw [hf] at hans; obtain ⟨g, rfl, hft, hg, h16⟩ := hans; have HF := Aside0.mk hft; have H16 := Aside0.mk h16; have HW1 := Aside0.mk hw1; clear hft hg h16 hw1)
      | (go_at_call 22; refine (plain_hit g _ _ _ (lay_below HL.out HW1.out) HF.out).mono ?_; rintro e_ w2 ⟨rfl, hw2⟩; have HW2 := Aside0.mk hw2; clear hw2))
    refine bodyPost_ret (results_tmp3 rfl _ _ _) rfl ?_
    exact ⟨_, rfl, Kd.R_nil _ _ _ _ _, Nat.zero_le _, HW1.out.trans (HW2.out.mono HW1.out.size)⟩
end
end Go.Proofs.YtbmginkdlcpnpaaDoor.Wk
end
section
namespace Go.Proofs.YtbmginkdlcpnpaaDoor.Wk
open Go.RowKit Go.Proofs.YtbmginkdlcpnpaaDoorW.PrintWords Go.Proofs.YtbmginkdlcpnpaaDoorW.PrintLast Go.Proofs.YtbmginkdlcpnpaaDoorW.PrintMore
attribute [local go_sem] max2_int min2_int max_two min_two max_three min_three max_four min_four
set_option linter.unusedVariables false
set_option linter.unusedSimpArgs false
section
open Go.RowKit Go.Lib
def firstBad : Nat → List ByteArray → Option Nat
  | _, [] => none
  | i, x :: xs => if goodName x = false then some i else firstBad (i + 1) xs
def slashed (l : List ByteArray) : List UInt8 := 47 :: Lib.join (l.map (·.data.toList)) [47]
def joinF (l : List ByteArray) : Except (Nat × Int) ByteArray :=
  if 16 < l.length then .error (0, 3) else match firstBad 0 l with
    | some i => .error (i, 8)
    | none => if 1024 < (slashed l).length then .error (0, 3) else .ok ⟨(slashed l).toArray⟩
def JoinAns (w : World) (r : Except (Nat × Int) ByteArray) (e : Ending) (w' : World) : Prop :=
  match r with
  | .ok s => e = .returned (.tuple #[.string s, .nilIface])
  | .error (at_, why) => ∃ g, e = .returned (.tuple #[.string ⟨#[]⟩, .iface 57 (.pointer (some ⟨g, 0, none⟩))]) ∧ FaultAt w' g at_ why ∧ w.heap.size ≤ g
theorem firstBad_drop (l : List ByteArray) : ∀ (i : Nat), i ≤ l.length → (∀ j x, j < i → l[j]? = some x → goodName x = true) → firstBad 0 l = firstBad i (l.drop i)
  | 0, _, _ => by simp
  | i + 1, hi, h => by
    have ih := firstBad_drop l i (by omega) (fun j x hj hx => h j x (by omega) hx)
    have hx := h i (l[i]'(by omega)) (by omega) (List.getElem?_eq_getElem (by omega))
    rw [ih, List.drop_eq_getElem_cons (by omega), firstBad, hx]
    simp
theorem join_len (l : List (List UInt8)) (h : l.length ≤ 16) (hx : ∀ x ∈ l, x.length ≤ 64) : (Lib.join l [47]).length ≤ 2000 := by
  have key : ∀ (l : List (List UInt8)), (∀ x ∈ l, x.length ≤ 64) → (Lib.join l [47]).length ≤ l.length * 65 := by
    intro l
    induction l with
    | nil => intro _; simp [Lib.join]
    | cons a t ih =>
      intro hx
      have ha := hx a (by simp)
      have it := ih (fun x hx' => hx x (by simp [hx']))
      cases t with
      | nil => simp [Lib.join]; omega
      | cons b t => simp [Lib.join] at it ⊢; omega
  have := key l hx
  omega
theorem good_len (x : ByteArray) (h : goodName x = true) : x.data.toList.length ≤ 64 := by
  have h2 : x.size ≤ 64 := by
    unfold goodName at h
    simp only [Bool.and_eq_true, decide_eq_true_eq] at h
    exact h.1.1.1.2
  rwa [Lib.size_eq] at h2
theorem firstBad_none (l : List ByteArray) (h : ∀ j x, j < l.length → l[j]? = some x → goodName x = true) : firstBad 0 l = none := by
  rw [firstBad_drop l l.length (Nat.le_refl _) h, List.drop_of_length_le (Nat.le_refl _), firstBad]
theorem addr_plain {w : World} {ad : Addr} {v : Value} (h : w.cell? ad = some v) : ad = ⟨ad.block, ad.off, none⟩ := by
  obtain ⟨b, o, s⟩ := ad
  cases s with
  | none => rfl
  | some k =>
    unfold World.cell? at h
    split at h <;> simp at h
theorem joined_len (l : List ByteArray) (h16 : l.length ≤ 16) (hg : ∀ j x, j < l.length → l[j]? = some x → goodName x = true) : (Lib.join (l.map (·.data.toList)) [47]).length ≤ 2000 :=
  join_len (l.map (·.data.toList)) (by simpa using h16) (fun x hx => by
    obtain ⟨y, hy, rfl⟩ := List.mem_map.1 hx
    obtain ⟨j, hj, rfl⟩ := List.getElem_of_mem hy
    exact good_len _ (hg j _ hj (List.getElem?_eq_getElem hj)))
theorem joined_calls (A0 : Option Addr) (c0 : Nat) (l : List ByteArray) (w : World) (hr0 : Kd.C Kd.string w A0 l.length l) (hc0 : l.length ≤ c0) (h16 : l.length ≤ 16) (hg : ∀ j x, j < l.length → l[j]? = some x → goodName x = true) :
    Calls Tryd.prog 31 #[.slice A0 l.length c0, .string ⟨#[47]⟩] w fun e w' => e = .returned (.string ⟨(Lib.join (l.map (·.data.toList)) [47]).toArray⟩) ∧ Below w.heap.size w w' := by
  by_cases h0 : l = []
  · subst h0
    refine (Tryd.strings_Join_none A0 c0 ⟨#[47]⟩ w).mono ?_
    rintro e w' ⟨rfl, rfl⟩
    exact ⟨rfl, Below.refl _ _⟩
  · have hpos : 0 < l.length := List.length_pos_iff.2 h0
    obtain ⟨ad, rfl, hc⟩ := Kd.at_string hr0 0 (Int.le_refl _) (by omega)
    have hpl : ad = ⟨ad.block, ad.off, none⟩ := addr_plain (by simpa [Addr.add] using hc)
    generalize ad.block = bk at hpl
    generalize ad.off = o at hpl
    subst hpl
    have hlen := joined_len l h16 hg
    have := Tryd.strings_Join bk o c0 l ⟨#[47]⟩ w (fun j x hx => by
      have hj : j < l.length := (List.getElem?_eq_some_iff.1 hx).1
      obtain ⟨ad2, e2, hc2⟩ := Kd.at_string hr0 (j : Int) (Int.natCast_nonneg j) (by omega)
      cases e2
      have : rdOf ByteArray.empty l (j : Int) = x := by simp [rdOf, List.getD_eq_getElem?_getD, hx]
      rw [this, show ((j : Int)).toNat = j from rfl] at hc2
      have ha : (⟨bk, o, none⟩ : Addr).add j = ⟨bk, o + j, none⟩ := by
        unfold Addr.add
        by_cases hj0 : j = 0
        · subst hj0; simp
        · rw [if_neg hj0]
      rwa [ha] at hc2) (World.block_lt_of_cell? w _ (by simpa [Addr.add] using hc)) (by omega) hc0 (by show (Lib.join _ [47]).length ≤ _; omega)
    exact this
theorem slash_app (l : List ByteArray) : (⟨#[47]⟩ : ByteArray) ++ ⟨(Lib.join (l.map (·.data.toList)) [47]).toArray⟩ = ⟨(slashed l).toArray⟩ := by
  apply mkB_eq
  simp [slashed]
set_option maxHeartbeats 4000000 in
set_option maxRecDepth 100000 in
theorem join_calls (A0 : Option Addr) (c0 : Nat) (l : List ByteArray) (w : World) (hr0 : Kd.C Kd.string w A0 l.length l) (hc0 : l.length ≤ c0) :
    Calls Tryd.prog 24 #[.slice A0 l.length c0] w fun e w' => JoinAns w (joinF l) e w' ∧ Below w.heap.size w w' := by
  have HR0 := Aside0.mk hr0
  have HC0 := Aside0.mk hc0
  clear hr0 hc0
  by_cases hbig : 16 < l.length
  · have hb1 : decide ((16 : Int) < (l.length : Int)) = true := decide_eq_true (by omega)
    unfold joinF
    rw [if_pos hbig]
    go_enter Tryd.func24, Tryd.ntmps24
    go_wp2_with (go_at_call 25; refine (wrong_calls 0 3 _).mono ?_; rintro e_ w1 ⟨g, rfl, hf, hg, hw1⟩)
    go_ret2
    exact ⟨⟨g, rfl, hf, hg⟩, hw1⟩
  · have hb1 : decide ((16 : Int) < (l.length : Int)) = false := decide_eq_false (by omega)
    go_enter Tryd.func24, Tryd.ntmps24
    go_wp2
    go_loopg [13] l.length (fun kq v13 wr => ∃ i : Nat, v13 = .int .i64 (i : Int) ∧ Aside0 (i ≤ l.length ∧ l.length - i ≤ kq ∧ ∀ j x, j < i → l[j]? = some x → goodName x = true) ∧ Aside0 (Below w.heap.size w wr))
    case atStart => exact ⟨0, rfl, ⟨Nat.zero_le _, by omega, fun j x hj => absurd hj (Nat.not_lt_zero _)⟩, ⟨Below.refl _ _⟩⟩
    case round =>
      obtain ⟨i, rfl, HI, HB⟩ := hrel
      by_cases hlt : i < l.length
      · obtain ⟨x, hx⟩ : ∃ x, l[i]? = some x := ⟨_, List.getElem?_eq_getElem hlt⟩
        have hrd : rdOf ByteArray.empty l (i : Int) = x := by simp [rdOf, List.getD_eq_getElem?_getD, hx]
        have p1 : (0 : Int) ≤ (i : Int) := Int.natCast_nonneg i
        have q1 : (i : Int) < (l.length : Int) := by omega
        obtain ⟨ad, e1, hc0⟩ := Kd.at_string HR0.out i p1 q1
        cases e1
        rw [hrd] at hc0
        have hc : wr.cell? (ad.add ((i : Int)).toNat) = some (.string x) := (HB.out.cell (World.block_lt_of_cell? w _ hc0)).trans hc0
        have q2 : decide ((i : Int) < (l.length : Int)) = true := decide_eq_true q1
        have hw1 : wrap64 ((i : Int) + 1) = i + 1 := by unfold wrap64; omega
        have HX := Aside0.mk hx
        replace p1 := eq_true p1
        replace q1 := eq_true q1
        clear hc0 hx
        rw [show ((i : Int)).toNat = i from rfl] at hc
        cases hg : goodName x
        · go_wp2_with (first
            | (go_at_call 10; refine (name_calls x _).mono ?_; rintro e_ w1 ⟨rfl, hw1_⟩; rw [hg]; have HW1 := Aside0.mk hw1_; clear hw1_)
            | (go_at_call 25; refine (wrong_calls _ 8 _).mono ?_; rintro e_ w2 ⟨g, rfl, hf, hgl, hw2⟩; have HF := Aside0.mk hf; have HGL := Aside0.mk hgl; have HW2 := Aside0.mk hw2; clear hf hgl hw2))
          go_ret2
          have hjf : joinF l = .error (i, 8) := by
            unfold joinF
            rw [if_neg hbig, firstBad_drop l i HI.out.1 HI.out.2.2, List.drop_eq_getElem_cons hlt, firstBad]
            have : l[i] = x := by have := HX.out; rw [List.getElem?_eq_getElem hlt] at this; simpa using this
            rw [this, if_pos hg]
          rw [hjf]
          exact ⟨⟨g, rfl, HF.out, Nat.le_trans HB.out.size (Nat.le_trans HW1.out.size HGL.out)⟩, HB.out.trans ((HW1.out.trans (HW2.out.mono HW1.out.size)).mono HB.out.size)⟩
        · go_wp2_with (go_at_call 10; refine (name_calls x _).mono ?_; rintro e_ w1 ⟨rfl, hw1_⟩; rw [hg]; have HW1 := Aside0.mk hw1_; clear hw1_)
          go_roundg (gk - 1)
          case measure => have := HI.out; omega
          case rel =>
            refine ⟨i + 1, rfl, ⟨by omega, by have := HI.out.2.1; omega, fun j y hj hy => ?_⟩, ⟨HB.out.trans (HW1.out.mono HB.out.size)⟩⟩
            by_cases hji : j < i
            · exact HI.out.2.2 j y hji hy
            · obtain rfl : j = i := by omega
              have := HX.out.symm.trans hy
              cases this
              exact hg
      · obtain rfl : i = l.length := by have := HI.out.1; omega
        have q2 : decide (((l.length : Nat) : Int) < (l.length : Int)) = false := decide_eq_false (by omega)
        have hfb := firstBad_none l HI.out.2.2
        by_cases hlen : 1024 < (slashed l).length
        · have hjf : joinF l = .error (0, 3) := by
            unfold joinF
            rw [if_neg hbig, hfb]
            simp only
            rw [if_pos hlen]
          have HJF := Aside0.mk hjf
          have HLEN := Aside0.mk hlen
          have l1 : ((1024 : Int) < ((slashed l).length : Int)) = True := eq_true (by omega)
          have l2 : decide ((1024 : Int) < ((slashed l).length : Int)) = true := decide_eq_true (by omega)
          have l3 : (9223372036854775807 < 1 + (Lib.join (l.map (fun x => x.data.toList)) [47]).length) = False := eq_false (by have := joined_len l (by omega) HI.out.2.2; omega)
          have hsa := slash_app l
          clear hlen hfb hjf
          go_wp2_with (first
            | (go_at_call 31; refine (joined_calls A0 c0 l _ (Kd.C_below HR0.out HB.out) HC0.out (by omega) HI.out.2.2).mono ?_; rintro e_ w1 ⟨rfl, hw1_⟩; have HW1 := Aside0.mk hw1_; clear hw1_)
            | (go_at_call 25; refine (wrong_calls _ 3 _).mono ?_; rintro e_ w2 ⟨g, rfl, hf, hgl, hw2⟩; have HF := Aside0.mk hf; have HGL := Aside0.mk hgl; have HW2 := Aside0.mk hw2; clear hf hgl hw2))
          go_ret2
          rw [HJF.out]
          exact ⟨⟨g, rfl, HF.out, Nat.le_trans HB.out.size (Nat.le_trans HW1.out.size HGL.out)⟩, HB.out.trans ((HW1.out.trans (HW2.out.mono HW1.out.size)).mono HB.out.size)⟩
        · have hjf : joinF l = .ok ⟨(slashed l).toArray⟩ := by
            unfold joinF
            rw [if_neg hbig, hfb]
            simp only
            rw [if_neg hlen]
          have HJF := Aside0.mk hjf
          have HLEN := Aside0.mk hlen
          have l1 : ((1024 : Int) < ((slashed l).length : Int)) = False := eq_false (by omega)
          have l2 : decide ((1024 : Int) < ((slashed l).length : Int)) = false := decide_eq_false (by omega)
          have l3 : (9223372036854775807 < 1 + (Lib.join (l.map (fun x => x.data.toList)) [47]).length) = False := eq_false (by have := joined_len l (by omega) HI.out.2.2; omega)
          have hsa := slash_app l
          clear hlen hfb hjf
          go_wp2_with (go_at_call 31; refine (joined_calls A0 c0 l _ (Kd.C_below HR0.out HB.out) HC0.out (by omega) HI.out.2.2).mono ?_; rintro e_ w1 ⟨rfl, hw1_⟩; have HW1 := Aside0.mk hw1_; clear hw1_)
          go_ret2
          rw [HJF.out]
          exact ⟨rfl, HB.out.trans (HW1.out.mono HB.out.size)⟩
end
end Go.Proofs.YtbmginkdlcpnpaaDoor.Wk
end
section
namespace Go.Proofs.YtbmginkdlcpnpaaDoor.Wk
open Go.RowKit Go.Proofs.YtbmginkdlcpnpaaDoorW.PrintWords Go.Proofs.YtbmginkdlcpnpaaDoorW.PrintLast Go.Proofs.YtbmginkdlcpnpaaDoorW.PrintMore
attribute [local go_sem] max2_int min2_int max_two min_two max_three min_three max_four min_four
set_option linter.unusedVariables false
set_option linter.unusedSimpArgs false
section
open Go.RowKit Go.Lib Go.Extern.Stop Go.Stop Go.Extern
theorem isTypeOf (v : Value) (w : World) : (Extern.ReflectliteType.typeOf #[.iface 25 v]).run Tryd.prog w = .ok (.iface 94 (.agg #[.pointer (some ⟨4, 25, none⟩)])) w := by kernel_rfl
def isCompF : Array Value → Sem Value := Extern.ReflectliteType.method fun t => do Extern.Rtype.noPackHeld "Comparable" t; pure (.bool (← typeInfo t).comparable)
theorem isComparable (w : World) : (isCompF #[.agg #[.pointer (some ⟨4, 25, none⟩)]]).run Tryd.prog w = .ok (.bool true) w := by kernel_rfl
theorem isMethodComparable (v : Value) (w : World) : (Go.method 254 94 v "Comparable").run Tryd.prog w = .ok (93, v) w := by kernel_rfl
theorem noIsE (v : Value) (xT : TypeId) (w : World) : (Instr.typeAssert (.iface 25 v) xT 96 true).run Tryd.prog w = .ok (.tuple #[.nilIface, .bool false]) w := run_typeAssert_lacksB Tryd.underlying96 (by kernel_rfl) (by kernel_rfl) v xT w
theorem noUnwrapE (v : Value) (xT : TypeId) (w : World) : (Instr.typeAssert (.iface 25 v) xT 99 true).run Tryd.prog w = .ok (.tuple #[.nilIface, .bool false]) w := run_typeAssert_lacksB Tryd.underlying99 (by kernel_rfl) (by kernel_rfl) v xT w
theorem noUnwrapsE (v : Value) (xT : TypeId) (w : World) : (Instr.typeAssert (.iface 25 v) xT 101 true).run Tryd.prog w = .ok (.tuple #[.nilIface, .bool false]) w := run_typeAssert_lacksB Tryd.underlying101 (by kernel_rfl) (by kernel_rfl) v xT w
theorem noIsW (v : Value) (xT : TypeId) (w : World) : (Instr.typeAssert (.iface 57 v) xT 96 true).run Tryd.prog w = .ok (.tuple #[.nilIface, .bool false]) w := run_typeAssert_lacksB Tryd.underlying96 (by kernel_rfl) (by kernel_rfl) v xT w
theorem hasUnwrapW (v : Value) (xT : TypeId) (w : World) : (Instr.typeAssert (.iface 57 v) xT 99 true).run Tryd.prog w = .ok (.tuple #[.iface 57 v, .bool true]) w := run_typeAssert_hasB Tryd.underlying99 (by kernel_rfl) v xT w
theorem methodUnwrap (v : Value) (w : World) : (Go.method 254 57 v "Unwrap").run Tryd.prog w = .ok (86, v) w := by kernel_rfl
theorem run_equalIn_iface_int {P : Program} (w : World) (d : Nat) {ti tp : TypeId} {ms : Array (String × TypeId)} {i : TypeInfo} {k : IntKind} (a b : Int)
    (hi : P.underlying ti = some (.interface ms)) (hp : P.underlying tp = some (.int k)) (hinfo : P.info? tp = some i) (hcomp : i.comparable = true) :
    (Op.equalIn (d + 2) ti (.iface tp (.int .i64 a)) (.iface tp (.int .i64 b))).run P w = .ok (a == b) w := by
  simp [Op.equalIn, run_underlying hi, run_underlying hp, typeInfo, hinfo, hcomp]
set_option maxHeartbeats 4000000 in
theorem errIs_calls (g : Nat) (at_ why : Int) (w : World) (hf : FaultAt w g at_ why) :
    Calls Tryd.prog 26 #[.iface 57 (.pointer (some ⟨g, 0, none⟩)), .iface 25 (.int .i64 11)] w fun e w' => e = .returned (.bool (why == 11)) ∧ w' = w := by
  have h8 := @run_callFunc_extern Tryd.prog 32 _ Extern.ReflectliteType.typeOf Tryd.func32 (by kernel_rfl) (by kernel_rfl) (by kernel_rfl) (by kernel_rfl)
  have h32 := @run_callFunc_extern Tryd.prog 93 _ isCompF Tryd.func93 (by kernel_rfl) (by kernel_rfl) (by kernel_rfl) (by kernel_rfl)
  have tT := isTypeOf
  have cT := isComparable
  have mR := isMethodComparable
  have nE := noIsE
  have uE := noUnwrapE
  have vE := noUnwrapsE
  have nW := noIsW
  have uW := hasUnwrapW
  have mU := methodUnwrap
  have hty := run_eql_iface_types (P := Tryd.prog) 57 25 (.pointer (some ⟨g, 0, none⟩)) (.int .i64 11) Tryd.underlying43 (by decide) w
  have hc1 : w.cell? ⟨g, 1, none⟩ = some (.int .i64 why) := (blk_cell hf 1).trans rfl
  have heq : (binOp .eql 43 (.iface 25 (.int .i64 why)) (.iface 25 (.int .i64 11))).run Tryd.prog w = .ok (.bool (why == 11)) w := by
    obtain ⟨i, hi, hcmp⟩ := Option.map_eq_some_iff.1 (show (Tryd.prog.info? 25).map (·.comparable) = some true by kernel_rfl)
    simp only [binOp]
    simp [Op.equal, Op.maxDepth, run_equalIn_iface_int w 9998 why 11 Tryd.underlying43 Tryd.underlying25 hi hcmp]
  cases hw : (why == 11)
  · rw [hw] at heq
    go_enter Tryd.func26, Tryd.ntmps26
    go_wp2
    refine wp_loop_rounds 2 ?_
    rw [rounds_succ]
    go_wp2
    rw [rounds_succ]
    go_wp2
    go_ret
    exact ⟨rfl, rfl⟩
  · rw [hw] at heq
    go_enter Tryd.func26, Tryd.ntmps26
    go_wp2
    refine wp_loop_rounds 2 ?_
    rw [rounds_succ]
    go_wp2
    rw [rounds_succ]
    go_wp2
    go_ret
    exact ⟨rfl, rfl⟩
end
end Go.Proofs.YtbmginkdlcpnpaaDoor.Wk
end
section
namespace Go.Proofs.YtbmginkdlcpnpaaDoor.Wk
open Go.RowKit Go.Proofs.YtbmginkdlcpnpaaDoorW.PrintWords Go.Proofs.YtbmginkdlcpnpaaDoorW.PrintLast Go.Proofs.YtbmginkdlcpnpaaDoorW.PrintMore
attribute [local go_sem] max2_int min2_int max_two min_two max_three min_three max_four min_four
set_option linter.unusedVariables false
set_option linter.unusedSimpArgs false
section
open Go.RowKit Go.Lib
def joinP (l : List ByteArray) : ByteArray × Int × Int := match joinF l with
  | .ok s => (s, 0, 0)
  | .error (a, y) => (⟨#[]⟩, a, y)
set_option maxHeartbeats 4000000 in
theorem join2_calls (A0 : Option Addr) (c0 : Nat) (l : List ByteArray) (w : World) (hl : Lay w) (hr0 : Kd.C Kd.string w A0 l.length l) (hc0 : l.length ≤ c0) (s : ByteArray) (a y : Int) (h : joinP l = (s, a, y)) :
    Calls Tryd.prog 16 #[.slice A0 l.length c0] w fun e w' => e = .returned (.tuple #[.string s, .int .i64 a, .int .i64 y]) ∧ Below w.heap.size w w' := by
  have HL := Aside0.mk hl
  have HP := Aside0.mk h
  have HR := Aside0.mk hr0
  have HC := Aside0.mk hc0
  clear hl h hr0 hc0
  unfold joinP at HP
  cases hf : joinF l with
  | ok l0 =>
    rw [hf] at HP
    obtain ⟨rfl, rfl, rfl⟩ : l0 = s ∧ (0 : Int) = a ∧ (0 : Int) = y := by simpa using HP.out
    clear HP
    go_enter Tryd.func16, Tryd.ntmps16
    go_wp2_with (first
      | (go_at_call 24; refine (join_calls A0 c0 l _ HR.out HC.out).mono ?_; rintro e_ w1 ⟨hans, hw1⟩; rw [hf] at hans; cases hans; have HW1 := Aside0.mk hw1; clear hw1)
      | (go_at_call 22; refine (plain_nil _).mono ?_; rintro e_ w2 ⟨rfl, hw2⟩; have HW2 := Aside0.mk hw2; clear hw2))
    refine bodyPost_ret (results_tmp3 rfl _ _ _) rfl ?_
    exact ⟨rfl, HW1.out.trans (HW2.out.mono HW1.out.size)⟩
  | error p =>
    obtain ⟨a0, y0⟩ := p
    rw [hf] at HP
    obtain ⟨rfl, rfl, rfl⟩ : (⟨#[]⟩ : ByteArray) = s ∧ (a0 : Int) = a ∧ y0 = y := by simpa using HP.out
    clear HP
    go_enter Tryd.func16, Tryd.ntmps16
    go_wp2_with (first
      | (go_at_call 24; refine (join_calls A0 c0 l _ HR.out HC.out).mono ?_; rintro e_ w1 ⟨hans, hw1⟩; rw [hf] at hans; obtain ⟨g, rfl, hft, hg⟩ := hans; have HF := Aside0.mk hft; have HW1 := Aside0.mk hw1; clear hft hg hw1)
      | (go_at_call 22; refine (plain_hit g _ _ _ (lay_below HL.out HW1.out) HF.out).mono ?_; rintro e_ w2 ⟨rfl, hw2⟩; have HW2 := Aside0.mk hw2; clear hw2))
    refine bodyPost_ret (results_tmp3 rfl _ _ _) rfl ?_
    exact ⟨rfl, HW1.out.trans (HW2.out.mono HW1.out.size)⟩
def splitP (s : ByteArray) : ByteArray × ByteArray × Int × Int := match parseF s with
  | .error (a, y) => (⟨#[]⟩, ⟨#[]⟩, a, y)
  | .ok l => if l.length = 0 then (⟨#[]⟩, ⟨#[]⟩, 0, 11) else ((joinP (l.take (l.length - 1))).1, rdOf ByteArray.empty l ((l.length : Int) - 1), 0, 0)
theorem parseL_err : ∀ (l acc : List ByteArray) (a : Nat) (y : Int), parseL acc l = .error (a, y) → y = 8 ∨ y = 3
  | [], acc, a, y, h => by cases h
  | p :: ps, acc, a, y, h => by
    unfold parseL at h
    cases hp : parseStep acc p with
    | ok b => rw [hp] at h; exact parseL_err ps b a y h
    | error e =>
      rw [hp] at h
      cases h
      unfold parseStep at hp
      split at hp
      · cases hp
      · split at hp
        · cases hp
        · split at hp
          · cases hp; exact .inl rfl
          · split at hp
            · cases hp; exact .inr rfl
            · cases hp
theorem parseF_err (s : ByteArray) (a : Nat) (y : Int) (h : parseF s = .error (a, y)) : y = 3 ∨ y = 8 ∨ y = 9 := by
  unfold parseF at h
  split at h
  · cases h; exact .inl rfl
  · split at h
    · cases h; exact .inr (.inr rfl)
    · rcases parseL_err _ _ _ _ h with e | e
      · exact .inr (.inl e)
      · exact .inl e
theorem join_first (A : Option Addr) (c : Nat) (l : List ByteArray) (w : World) (m : Nat) (hm : m ≤ l.length) (ok : Nat → Prop) (base c0 : Nat) (hr : Kd.R Kd.string 9 w base ok (.slice A l.length c) l) :
    Calls Tryd.prog 24 #[.slice A m c, ] w fun e w' => ∃ v, e = .returned (.tuple #[.string (joinP (l.take m)).1, v]) ∧ Below w.heap.size w w' := by
  have h2 := Kd.R_take hr hm
  obtain ⟨-, hc, hC⟩ := Kd.R_reads' h2
  have hl : (l.take m).length = m := by rw [List.length_take]; omega
  have := join_calls A c (l.take m) w hC (by rw [hl]; exact hc)
  rw [hl] at this
  refine this.mono ?_
  rintro e w' ⟨ha, hb⟩
  unfold joinP
  unfold JoinAns at ha
  cases hj : joinF (l.take m) with
  | ok s =>
    rw [hj] at ha
    exact ⟨_, ha, hb⟩
  | error p =>
    rw [hj] at ha
    obtain ⟨g, he, -, -⟩ := ha
    exact ⟨_, he, hb⟩
set_option maxHeartbeats 4000000 in
theorem split_calls (s : ByteArray) (w : World) (hl : Lay w) (d n : ByteArray) (a y : Int) (h : splitP s = (d, n, a, y)) :
    Calls Tryd.prog 18 #[.string s] w fun e w' => e = .returned (.tuple #[.string d, .string n, .int .i64 a, .int .i64 y]) ∧ Below w.heap.size w w' := by
  have HL := Aside0.mk hl
  have HP := Aside0.mk h
  clear hl h
  unfold splitP at HP
  cases hf : parseF s with
  | error p =>
    obtain ⟨a0, y0⟩ := p
    rw [hf] at HP
    obtain ⟨rfl, rfl, rfl, rfl⟩ : (⟨#[]⟩ : ByteArray) = d ∧ (⟨#[]⟩ : ByteArray) = n ∧ (a0 : Int) = a ∧ y0 = y := by simpa using HP.out
    clear HP
    have hy : (y0 == 11) = false := by rcases parseF_err s _ _ hf with e | e | e <;> subst e <;> rfl
    go_enter Tryd.func18, Tryd.ntmps18
    go_wp2_with (first
      | (go_at_call 21; refine (parse_calls s _).mono ?_; rintro e_ w1 ⟨hans, hw1⟩; rw [hf] at hans; obtain ⟨g, rfl, hft, hg, h16⟩ := hans; have HF := Aside0.mk hft; have H16 := Aside0.mk h16; have HW1 := Aside0.mk hw1; clear hft hg h16 hw1)
      | (go_at_call 26; refine (errIs_calls g _ _ _ HF.out).mono ?_; rintro e_ w2 ⟨rfl, rfl⟩; rw [hy])
      | (go_at_call 22; refine (plain_hit g _ _ _ (lay_below HL.out HW1.out) HF.out).mono ?_; rintro e_ w3 ⟨rfl, hw3⟩; have HW3 := Aside0.mk hw3; clear hw3))
    refine bodyPost_ret (results_list (rs := [.tmp 2, .tmp 3, .tmp 4, .tmp 5]) rfl (by simp) (.tmp (.tmp (.tmp (.tmp .nil))))) rfl ?_
    exact ⟨rfl, HW1.out.trans (HW3.out.mono HW1.out.size)⟩
  | ok l =>
    rw [hf] at HP
    by_cases h0 : l.length = 0
    · obtain rfl : l = [] := List.length_eq_zero_iff.1 h0
      obtain ⟨rfl, rfl, rfl, rfl⟩ : (⟨#[]⟩ : ByteArray) = d ∧ (⟨#[]⟩ : ByteArray) = n ∧ (0 : Int) = a ∧ (11 : Int) = y := by simpa using HP.out
      clear HP
      go_enter Tryd.func18, Tryd.ntmps18
      go_wp2_with (first
        | (go_at_call 21; refine (parse_calls s _).mono ?_; rintro e_ w1 ⟨hans, hw1⟩; rw [hf] at hans; obtain ⟨v, rfl, hr, h16⟩ := hans; obtain ⟨A, c, rfl⟩ := Kd.R_slice hr; have HW1 := Aside0.mk hw1; clear hr h16 hw1)
        | (go_at_call 25; refine (wrong_calls 0 11 _).mono ?_; rintro e_ w2 ⟨g, rfl, hft, hg, hw2⟩; have HF := Aside0.mk hft; have HW2 := Aside0.mk hw2; clear hft hg hw2)
        | (go_at_call 26; refine (errIs_calls g _ _ _ HF.out).mono ?_; rintro e_ w3 ⟨rfl, rfl⟩))
      refine bodyPost_ret (results_list (rs := [.tmp 2, .tmp 3, .tmp 4, .tmp 5]) rfl (by simp) (.tmp (.tmp (.tmp (.tmp .nil))))) rfl ?_
      exact ⟨rfl, HW1.out.trans (HW2.out.mono HW1.out.size)⟩
    · have hne : ((l.length : Int) == 0) = false := by simpa using h0
      obtain ⟨jm, hjm⟩ : ∃ jm : Int, jm = (l.length : Int) - 1 := ⟨_, rfl⟩
      simp only [h0, if_false, ← hjm] at HP
      obtain ⟨rfl, rfl, rfl, rfl⟩ : (joinP (l.take (l.length - 1))).1 = d ∧ rdOf ByteArray.empty l jm = n ∧ (0 : Int) = a ∧ (0 : Int) = y := by simpa using HP.out
      clear HP
      have hj0 : 0 ≤ jm := by omega
      have hjl : jm < (l.length : Int) := by omega
      have hjn : jm.toNat = l.length - 1 := by omega
      have h1 : (l.take (l.length - 1)).length = l.length - 1 := by rw [List.length_take]; omega
      have H1 := Aside0.mk h1
      have hjd : decide (0 ≤ jm) = true := decide_eq_true hj0
      have HJM := Aside0.mk hjm
      clear h1 hjm
      go_enter Tryd.func18, Tryd.ntmps18
      go_upto_region 9 with (first
        | (go_at_call 21; refine (parse_calls s _).mono ?_; rintro e_ w1 ⟨hans, hw1⟩; rw [hf] at hans; obtain ⟨v, rfl, hr, h16⟩ := hans; obtain ⟨A, c, rfl⟩ := Kd.R_slice hr; have HR := Aside0.mk hr; have H16 := Aside0.mk h16; have HW1 := Aside0.mk hw1; clear hr h16 hw1))
      have hwr : wrap64 ((l.length : Int) - 1) = jm := by have := H16.out; have := HJM.out; unfold wrap64; omega
      obtain ⟨-, hcc, hC⟩ := Kd.R_reads' HR.out
      have hjc : jm ≤ (c : Int) := by omega
      have HC := Aside0.mk hC
      have hjc0 : (0 ≤ jm) = True := eq_true hj0
      have hjc1 : (jm ≤ (c : Int)) = True := eq_true hjc
      clear hC
      go_upto_region 10 with (fail)
      have hjn2 := join_first A c l w1 (l.length - 1) (Nat.sub_le _ _) (fun _ => True) w.heap.size c HR.out
      have HJN := Aside0.mk hjn2
      clear hjn2
      go_upto_region 11 with (go_at_call 24; refine (HJN.out).mono ?_; rintro e_ w2 ⟨v2, rfl, hw2⟩; have HW2 := Aside0.mk hw2; clear hw2)
      have hjl1 : (jm < (l.length : Int)) = True := eq_true hjl
      obtain ⟨ad, e1, hc0⟩ := Kd.at_string (Kd.C_below HC.out HW2.out) jm hj0 hjl
      rw [hjn] at hc0
      have HCELL := Aside0.mk hc0
      subst e1
      clear hc0
      have HB := Aside0.mk (HW1.out.trans (HW2.out.mono HW1.out.size))
      have hSS : w2.drew.cell? (ad.add (l.length - 1)) = some (.string (rdOf ByteArray.empty l jm)) := HCELL.out
      clear HR HC HJN HW1 HW2 HCELL
      refine start_ (n := 9) (S := fun W' => W'.cell? (ad.add (l.length - 1)) = some (.string (rdOf ByteArray.empty l jm))) (ds := []) #[false, false, false, false, false, false, false, false, false] (by kernel_rfl) rfl rfl hSS (fun hHeld => ?_)
      refine pure_ (i := 0) (N := some 44) (v := ?_) (a' := ?_) #[true, false, false, false, false, false, false, false, false] rfl rfl (by kernel_rfl) (fun _ _ _ h => h) (Or.inl ⟨by rfl, ?_⟩) ?_ ?_
      rotate_left
      · intro w'
        go_simp
        with_reducible rfl
      rotate_left
      · simp only [Act.put, List.setIfInBounds_toArray, List.set_cons_zero, List.set_cons_succ, i64_w, i32_w]
        rfl
      refine pure_ (i := 1) (N := some 45) (v := ?_) (a' := ?_) #[true, true, false, false, false, false, false, false, false] rfl rfl (by kernel_rfl) (fun _ _ _ h => h) (Or.inl ⟨by rfl, ?_⟩) ?_ ?_
      rotate_left
      · intro w'
        go_simp
        with_reducible rfl
      rotate_left
      · simp only [Act.put, List.setIfInBounds_toArray, List.set_cons_zero, List.set_cons_succ, i64_w, i32_w]
        rfl
      refine pure_ (i := 2) (N := some 46) (v := ?_) (a' := ?_) #[true, true, true, false, false, false, false, false, false] rfl rfl (by kernel_rfl) (fun _ _ _ h => h) (Or.inl ⟨by rfl, ?_⟩) ?_ ?_
      rotate_left
      · intro w'
        go_simp
        with_reducible rfl
      rotate_left
      · simp only [Act.put, List.setIfInBounds_toArray, List.set_cons_zero, List.set_cons_succ, i64_w, i32_w]
        rfl
      refine pure_ (i := 3) (N := some 47) (v := ?_) (a' := ?_) #[true, true, true, true, false, false, false, false, false] rfl rfl (by kernel_rfl) (fun _ _ _ h => h) (Or.inl ⟨by rfl, ?_⟩) ?_ ?_
      rotate_left
      · intro w'
        go_simp
        with_reducible rfl
      rotate_left
      · simp only [Act.put, List.setIfInBounds_toArray, List.set_cons_zero, List.set_cons_succ, i64_w, i32_w]
        rfl
      refine take_ (i := 4) (N := some 48) (v := ?_) (a' := ?_) #[true, true, true, true, true, false, false, false, false] rfl rfl (by kernel_rfl) (fun _ _ _ h => h) (Or.inl ⟨by rfl, ?_⟩) hHeld ?_ ?_
      rotate_left
      · rintro w' c0_
        go_simp
        with_reducible rfl
      rotate_left
      · simp only [Act.put, List.setIfInBounds_toArray, List.set_cons_zero, List.set_cons_succ, i64_w, i32_w]
        rfl
      refine pure_ (i := 5) (N := some 2) (v := ?_) (a' := ?_) #[true, true, true, true, true, true, false, false, false] rfl rfl (by kernel_rfl) (fun _ _ _ h => h) (Or.inl ⟨by rfl, ?_⟩) ?_ ?_
      rotate_left
      · intro w'
        go_simp
        with_reducible rfl
      rotate_left
      · simp only [Act.put, List.setIfInBounds_toArray, List.set_cons_zero, List.set_cons_succ, i64_w, i32_w]
        rfl
      refine pure_ (i := 6) (N := some 3) (v := ?_) (a' := ?_) #[true, true, true, true, true, true, true, false, false] rfl rfl (by kernel_rfl) (fun _ _ _ h => h) (Or.inl ⟨by rfl, ?_⟩) ?_ ?_
      rotate_left
      · intro w'
        go_simp
        with_reducible rfl
      rotate_left
      · simp only [Act.put, List.setIfInBounds_toArray, List.set_cons_zero, List.set_cons_succ, i64_w, i32_w]
        rfl
      refine pure_ (i := 7) (N := some 4) (v := ?_) (a' := ?_) #[true, true, true, true, true, true, true, true, false] rfl rfl (by kernel_rfl) (fun _ _ _ h => h) (Or.inl ⟨by rfl, ?_⟩) ?_ ?_
      rotate_left
      · intro w'
        go_simp
        with_reducible rfl
      rotate_left
      · simp only [Act.put, List.setIfInBounds_toArray, List.set_cons_zero, List.set_cons_succ, i64_w, i32_w]
        rfl
      refine pure_ (i := 8) (N := some 5) (v := ?_) (a' := ?_) #[true, true, true, true, true, true, true, true, true] rfl rfl (by kernel_rfl) (fun _ _ _ h => h) (Or.inl ⟨by rfl, ?_⟩) ?_ ?_
      rotate_left
      · intro w'
        go_simp
        with_reducible rfl
      rotate_left
      · simp only [Act.put, List.setIfInBounds_toArray, List.set_cons_zero, List.set_cons_succ, i64_w, i32_w]
        rfl
      refine done_ (by kernel_rfl) ?_
      go_wp2
      refine bodyPost_ret (results_list (rs := [.tmp 2, .tmp 3, .tmp 4, .tmp 5]) rfl (by simp) (.tmp (.tmp (.tmp (.tmp .nil))))) rfl ?_
      exact ⟨rfl, HB.out.drew⟩
end
end Go.Proofs.YtbmginkdlcpnpaaDoor.Wk
end
section
namespace Go.Proofs.YtbmginkdlcpnpaaDoor.Wk
open Go.RowKit Go.Proofs.YtbmginkdlcpnpaaDoorW.PrintWords Go.Proofs.YtbmginkdlcpnpaaDoorW.PrintLast Go.Proofs.YtbmginkdlcpnpaaDoorW.PrintMore
attribute [local go_sem] max2_int min2_int max_two min_two max_three min_three max_four min_four
set_option linter.unusedVariables false
set_option linter.unusedSimpArgs false
def errW : Option Int → Value
  | none => .nilIface
  | some c => .iface 0 (.int .i64 c)
theorem errW_none : errW none = .nilIface := rfl
theorem errW_some (c : Int) : errW (some c) = .iface 0 (.int .i64 c) := rfl
theorem info9 : (Tryd.prog.info? 9).map (fun i => (i.zero, i.size, i.bytes)) = some (some (.string ⟨#[]⟩), 1, 16) := by kernel_rfl
def rd_L1 (xs : List (List ByteArray)) (i : Int) : (List ByteArray) := xs.getD i.toNat ([] : List ByteArray)
end Go.Proofs.YtbmginkdlcpnpaaDoor.Wk
end
section
namespace Go.Proofs.YtbmginkdlcpnpaaDoor.Wk
open Go.RowKit Go.Proofs.YtbmginkdlcpnpaaDoorW.PrintWords Go.Proofs.YtbmginkdlcpnpaaDoorW.PrintLast Go.Proofs.YtbmginkdlcpnpaaDoorW.PrintMore
attribute [local go_sem] max2_int min2_int max_two min_two max_three min_three max_four min_four
set_option linter.unusedVariables false
set_option linter.unusedSimpArgs false
def path_Parse.f (a0 : ByteArray) : Option (List ByteArray × Int × Int) := some (parseP a0)
theorem path_Parse.calls (a0 : ByteArray) (r1 : List ByteArray) (r2 : Int) (r3 : Int) (w : World) (hlay_ : Lay w) (h : path_Parse.f a0 = some (r1, r2, r3)) :
    Calls Tryd.prog 13 #[.string a0] w fun e w' => ∃ v0_ : Value, e = .returned (.tuple #[v0_, .int .i64 r2, .int .i64 r3]) ∧ Kd.R Kd.string 9 w' w.heap.size (fun _ => True) v0_ r1 ∧ Below w.heap.size w w' := by
  refine (parse2_calls a0 w hlay_ r1 r2 r3 (Option.some.inj h)).mono ?_
  rintro e w' ⟨v, h1, h2, -, h3⟩
  exact ⟨v, h1, h2, h3⟩
end Go.Proofs.YtbmginkdlcpnpaaDoor.Wk
end
section
namespace Go.Proofs.YtbmginkdlcpnpaaDoor.Wk
open Go.RowKit Go.Proofs.YtbmginkdlcpnpaaDoorW.PrintWords Go.Proofs.YtbmginkdlcpnpaaDoorW.PrintLast Go.Proofs.YtbmginkdlcpnpaaDoorW.PrintMore
attribute [local go_sem] max2_int min2_int max_two min_two max_three min_three max_four min_four
set_option linter.unusedVariables false
set_option linter.unusedSimpArgs false
def slabvaultlaw17_texts.l0 : Nat → List ByteArray → List ByteArray → Int → Option (Bool)
  | 0, _, _, _ => none
  | k + 1, x0, x1, x5 => if x5 < (x0.length : Int) then (if 0 ≤ x5 then (if x5 < (x1.length : Int) then (if (rdOf ByteArray.empty x0 x5).toList = (rdOf ByteArray.empty x1 x5).toList then (slabvaultlaw17_texts.l0 k x0 x1 (wrap64 (x5 + 1))) else (some false)) else (none)) else (none)) else (some true)
def slabvaultlaw17_texts.f (k : Nat) (l0 : List ByteArray) (l1 : List ByteArray) : Option (Bool) := if (l0.length : Int) = (l1.length : Int) then (slabvaultlaw17_texts.l0 k l0 l1 0) else (some false)
theorem slabvaultlaw17_texts.mono_l : ∀ k, (∀ y0 y1 y2, LeO (slabvaultlaw17_texts.l0 k y0 y1 y2) (slabvaultlaw17_texts.l0 (k + 1) y0 y1 y2))
  | 0 => fun _ _ _ r h => by simp [slabvaultlaw17_texts.l0] at h
  | k + 1 => by
    have ih0 := slabvaultlaw17_texts.mono_l k
    · intro y0 y1 y2
      unfold slabvaultlaw17_texts.l0
      repeat' first
      | (with_reducible exact ih0 _ _ _)
      | (with_reducible exact LeO.refl _)
      | (with_reducible exact LeO.none _)
      | (with_reducible refine LeO.ite ?_ ?_)
      | (with_reducible refine LeO.bind ?_ (fun _ => ?_))
      | exact ih0 _ _ _
      | exact LeO.none _
      | refine LeO.ite ?_ ?_
      | refine LeO.bind ?_ (fun _ => ?_)
theorem slabvaultlaw17_texts.mono : ∀ a0 a1 k, LeO (slabvaultlaw17_texts.f k a0 a1) (slabvaultlaw17_texts.f (k + 1) a0 a1) := by
  intro a0 a1 k
  have ih0 := slabvaultlaw17_texts.mono_l k
  unfold slabvaultlaw17_texts.f
  repeat' first
      | (with_reducible exact ih0 _ _ _)
      | (with_reducible exact LeO.refl _)
      | (with_reducible exact LeO.none _)
      | (with_reducible refine LeO.ite ?_ ?_)
      | (with_reducible refine LeO.bind ?_ (fun _ => ?_))
      | exact ih0 _ _ _
      | exact LeO.none _
      | refine LeO.ite ?_ ?_
      | refine LeO.bind ?_ (fun _ => ?_)
set_option maxHeartbeats 8000000 in
set_option maxRecDepth 100000 in
theorem slabvaultlaw17_texts.calls (k : Nat) (A0 : Option Addr) (c0 : Nat) (l0 : List ByteArray) (A1 : Option Addr) (c1 : Nat) (l1 : List ByteArray) (r : Bool) (w : World) (hr0 : Kd.C Kd.string w A0 l0.length l0) (hc0 : l0.length ≤ c0) (hr1 : Kd.C Kd.string w A1 l1.length l1) (hc1 : l1.length ≤ c1) (h : slabvaultlaw17_texts.f k l0 l1 = some r) :
    Calls Tryd.prog 15 #[.slice A0 l0.length c0, .slice A1 l1.length c1] w fun e w' => e = .returned (.bool r) ∧ Drawn0 w w' := by
  have HR0 := Aside0.mk hr0
  have HC0 := Aside0.mk hc0
  clear hr0 hc0
  have HR1 := Aside0.mk hr1
  have HC1 := Aside0.mk hc1
  clear hr1 hc1
  have H : (if (l0.length : Int) = (l1.length : Int) then (slabvaultlaw17_texts.l0 k l0 l1 0) else (some false)) = some r := h
  clear h
  by_cases c3 : (l0.length : Int) = (l1.length : Int)
  · rw [if_pos c3] at H
    have c3b0 : ((l0.length : Int) == (l1.length : Int)) = true := beq_iff_eq.mpr c3
    have c3b1 : ((l0.length : Int) != (l1.length : Int)) = false := bne_eq_false_iff_eq.mpr c3
    have c3b2 : (l0.length == l1.length) = true := by first | simpa using c3 | (simp at c3 ⊢; omega)
    clear c3
    have H' := Aside0.mk H
    clear H
    go_enter Tryd.func15, Tryd.ntmps15
    go_wp2
    repeat (go_quiet (fail); try go_wp2)
    go_loopg [5] k (fun kq v5 w' => ∃ (x5_1 : Int), v5 = .int .i64 x5_1 ∧ Aside0 (slabvaultlaw17_texts.l0 kq l0 l1 x5_1 = some r) ∧ Aside0 (kq ≤ k) ∧ Drawn0 w w')
    case atStart => exact ⟨(0), (by first | rfl | (simp; done) | (simp [*]; done)), H', ⟨Nat.le_refl _⟩, by repeat (first | exact Drawn0.refl _ | apply Drawn0.step)⟩
    case round =>
      clear H'
      try clear c1
      try clear p2
      try clear c3
      try clear c3b0
      try clear c3b1
      try clear c3b2
      obtain ⟨x5_1, rfl, HA, HK1, ⟨m1, rfl⟩⟩ := hrel
      cases gk with
      | zero => exact absurd HA.out (by simp [slabvaultlaw17_texts.l0])
      | succ k1 =>
        have H := HA.out
        clear HA
        simp only [slabvaultlaw17_texts.l0] at H
        by_cases c4 : x5_1 < (l0.length : Int)
        · rw [if_pos c4] at H
          have c4b0 : decide (x5_1 < (l0.length : Int)) = true := decide_eq_true c4
          clear c4
          by_cases c5 : 0 ≤ x5_1
          · rw [if_pos c5] at H
            have c5b0 : decide (0 ≤ x5_1) = true := decide_eq_true c5
            clear c5
            by_cases c6 : x5_1 < (l1.length : Int)
            · rw [if_pos c6] at H
              have c6b0 : decide (x5_1 < (l1.length : Int)) = true := decide_eq_true c6
              clear c6
              by_cases c7 : (rdOf ByteArray.empty l0 x5_1).toList = (rdOf ByteArray.empty l1 x5_1).toList
              · rw [if_pos c7] at H
                have c7b0 : ((rdOf ByteArray.empty l0 x5_1).toList == (rdOf ByteArray.empty l1 x5_1).toList) = true := beq_iff_eq.mpr c7
                have c7b1 : ((rdOf ByteArray.empty l0 x5_1).toList != (rdOf ByteArray.empty l1 x5_1).toList) = false := bne_eq_false_iff_eq.mpr c7
                clear c7
                have H' := Aside0.mk H
                clear H
                have p103 : 0 ≤ (x5_1 : Int) := of_decide_eq_true (by first | (with_reducible assumption) | assumption)
                have q103 : x5_1 < (l0.length : Int) := of_decide_eq_true (by first | (with_reducible assumption) | assumption)
                obtain ⟨ad103, e103, hx103_0⟩ := Kd.at_string HR0.out x5_1 p103 q103
                cases e103
                replace p103 := eq_true p103
                replace q103 := eq_true q103
                have p104 : 0 ≤ (x5_1 : Int) := of_decide_eq_true (by first | (with_reducible assumption) | assumption)
                have q104 : x5_1 < (l1.length : Int) := of_decide_eq_true (by first | (with_reducible assumption) | assumption)
                obtain ⟨ad104, e104, hx104_0⟩ := Kd.at_string HR1.out x5_1 p104 q104
                cases e104
                replace p104 := eq_true p104
                replace q104 := eq_true q104
                go_wp2
                repeat (go_quiet (fail); try go_wp2)
                go_roundg k1
                case measure => have := HK1.out; omega
                case rel => exact ⟨(wrap64 (x5_1 + 1)), (by first | rfl | (simp; done) | (simp [*]; done)), H', ⟨by have := HK1.out; omega⟩, by repeat (first | exact Drawn0.refl _ | apply Drawn0.step)⟩
              · rw [if_neg c7] at H
                have c7b0 : ((rdOf ByteArray.empty l0 x5_1).toList == (rdOf ByteArray.empty l1 x5_1).toList) = false := beq_eq_false_iff_ne.mpr c7
                have c7b1 : ((rdOf ByteArray.empty l0 x5_1).toList != (rdOf ByteArray.empty l1 x5_1).toList) = true := bne_iff_ne.mpr c7
                obtain rfl := Option.some.inj H
                have p103 : 0 ≤ (x5_1 : Int) := of_decide_eq_true (by first | (with_reducible assumption) | assumption)
                have q103 : x5_1 < (l0.length : Int) := of_decide_eq_true (by first | (with_reducible assumption) | assumption)
                obtain ⟨ad103, e103, hx103_0⟩ := Kd.at_string HR0.out x5_1 p103 q103
                cases e103
                replace p103 := eq_true p103
                replace q103 := eq_true q103
                have p104 : 0 ≤ (x5_1 : Int) := of_decide_eq_true (by first | (with_reducible assumption) | assumption)
                have q104 : x5_1 < (l1.length : Int) := of_decide_eq_true (by first | (with_reducible assumption) | assumption)
                obtain ⟨ad104, e104, hx104_0⟩ := Kd.at_string HR1.out x5_1 p104 q104
                cases e104
                replace p104 := eq_true p104
                replace q104 := eq_true q104
                go_wp2
                repeat (go_quiet (fail); try go_wp2)
                go_ret
                exact ⟨by first | rfl | (simp; done) | (simp [*]; done), by repeat (first | exact Drawn0.refl _ | apply Drawn0.step)⟩
            · rw [if_neg c6] at H
              exact absurd H (by simp)
          · rw [if_neg c5] at H
            exact absurd H (by simp)
        · rw [if_neg c4] at H
          have c4b0 : decide (x5_1 < (l0.length : Int)) = false := decide_eq_false c4
          clear c4
          obtain rfl := Option.some.inj H
          go_wp2
          repeat (go_quiet (fail); try go_wp2)
          go_ret
          exact ⟨by first | rfl | (simp; done) | (simp [*]; done), by repeat (first | exact Drawn0.refl _ | apply Drawn0.step)⟩
  · rw [if_neg c3] at H
    have c3b0 : ((l0.length : Int) == (l1.length : Int)) = false := beq_eq_false_iff_ne.mpr c3
    have c3b1 : ((l0.length : Int) != (l1.length : Int)) = true := bne_iff_ne.mpr c3
    have c3b2 : (l0.length == l1.length) = false := by first | simpa using c3 | (simp at c3 ⊢; omega)
    obtain rfl := Option.some.inj H
    go_enter Tryd.func15, Tryd.ntmps15
    go_wp2
    repeat (go_quiet (fail); try go_wp2)
    go_ret
    exact ⟨by first | rfl | (simp; done) | (simp [*]; done), by repeat (first | exact Drawn0.refl _ | apply Drawn0.step)⟩
end Go.Proofs.YtbmginkdlcpnpaaDoor.Wk
end
section
namespace Go.Proofs.YtbmginkdlcpnpaaDoor.Wk
open Go.RowKit Go.Proofs.YtbmginkdlcpnpaaDoorW.PrintWords Go.Proofs.YtbmginkdlcpnpaaDoorW.PrintLast Go.Proofs.YtbmginkdlcpnpaaDoorW.PrintMore
attribute [local go_sem] max2_int min2_int max_two min_two max_three min_three max_four min_four
set_option linter.unusedVariables false
set_option linter.unusedSimpArgs false
def path_Join.f (l0 : List ByteArray) : Option (ByteArray × Int × Int) := some (joinP l0)
theorem path_Join.calls (A0 : Option Addr) (c0 : Nat) (l0 : List ByteArray) (r1 : ByteArray) (r2 : Int) (r3 : Int) (w : World) (hr0 : Kd.C Kd.string w A0 l0.length l0) (hc0 : l0.length ≤ c0) (hlay_ : Lay w) (h : path_Join.f l0 = some (r1, r2, r3)) :
    Calls Tryd.prog 16 #[.slice A0 l0.length c0] w fun e w' => e = .returned (.tuple #[.string r1, .int .i64 r2, .int .i64 r3]) ∧ Below w.heap.size w w' :=
  join2_calls A0 c0 l0 w hlay_ hr0 hc0 r1 r2 r3 (Option.some.inj h)
end Go.Proofs.YtbmginkdlcpnpaaDoor.Wk
end
section
namespace Go.Proofs.YtbmginkdlcpnpaaDoor.Wk
open Go.RowKit Go.Proofs.YtbmginkdlcpnpaaDoorW.PrintWords Go.Proofs.YtbmginkdlcpnpaaDoorW.PrintLast Go.Proofs.YtbmginkdlcpnpaaDoorW.PrintMore
attribute [local go_sem] max2_int min2_int max_two min_two max_three min_three max_four min_four
set_option linter.unusedVariables false
set_option linter.unusedSimpArgs false
def slabvaultlaw17_lives.f (k : Nat)  : Option (Bool) := (path_Parse.f (⟨#[47, 97, 47, 47, 46, 47, 98, 47]⟩ : ByteArray)).bind fun bt106 => ((path_Parse.f (⟨#[47, 97, 47, 46, 46, 47, 98]⟩ : ByteArray)).bind fun bt111 => ((path_Join.f (([(⟨#[97]⟩ : ByteArray), (⟨#[98]⟩ : ByteArray)] : List ByteArray))).bind fun bt119 => ((slabvaultlaw17_texts.f k bt106.1 (([(⟨#[97]⟩ : ByteArray), (⟨#[98]⟩ : ByteArray)] : List ByteArray))).bind fun t125 => (if t125 = true then (if bt106.2.2 = 0 then (if bt111.2.1 = 1 then (if bt111.2.2 = 8 then (if bt119.1.toList = ([47, 97, 47, 98] : List UInt8) then (if bt119.2.2 = 0 then (some true) else (some false)) else (some false)) else (some false)) else (some false)) else (some false)) else (some false)))))
theorem slabvaultlaw17_lives.mono : ∀ k, LeO (slabvaultlaw17_lives.f k ) (slabvaultlaw17_lives.f (k + 1) ) := by
  intro  k
  unfold slabvaultlaw17_lives.f
  repeat' first
      | (with_reducible exact slabvaultlaw17_texts.mono _ _ _)
      | (with_reducible exact LeO.refl _)
      | (with_reducible exact LeO.none _)
      | (with_reducible refine LeO.ite ?_ ?_)
      | (with_reducible refine LeO.bind ?_ (fun _ => ?_))
      | exact slabvaultlaw17_texts.mono _ _ _
      | exact LeO.none _
      | refine LeO.ite ?_ ?_
      | refine LeO.bind ?_ (fun _ => ?_)
set_option maxHeartbeats 8000000 in
set_option maxRecDepth 100000 in
theorem slabvaultlaw17_lives.calls (k : Nat)  (r : Bool) (w : World) (hlay_ : Lay w) (h : slabvaultlaw17_lives.f k  = some r) :
    Calls Tryd.prog 12 #[] w fun e w' => e = .returned (.bool r) ∧ Below w.heap.size w w' := by
  have HLAY_ := Aside0.mk hlay_
  clear hlay_
  have HB := Aside0.mk (Below.refl w.heap.size w)
  have H : ((path_Parse.f (⟨#[47, 97, 47, 47, 46, 47, 98, 47]⟩ : ByteArray)).bind fun bt106 => ((path_Parse.f (⟨#[47, 97, 47, 46, 46, 47, 98]⟩ : ByteArray)).bind fun bt111 => ((path_Join.f (([(⟨#[97]⟩ : ByteArray), (⟨#[98]⟩ : ByteArray)] : List ByteArray))).bind fun bt119 => ((slabvaultlaw17_texts.f k bt106.1 (([(⟨#[97]⟩ : ByteArray), (⟨#[98]⟩ : ByteArray)] : List ByteArray))).bind fun t125 => (if t125 = true then (if bt106.2.2 = 0 then (if bt111.2.1 = 1 then (if bt111.2.2 = 8 then (if bt119.1.toList = ([47, 97, 47, 98] : List UInt8) then (if bt119.2.2 = 0 then (some true) else (some false)) else (some false)) else (some false)) else (some false)) else (some false)) else (some false)))))) = some r := h
  clear h
  replace H := Option.bind_eq_some_iff.mp H
  obtain ⟨⟨t106, t107, t108⟩, A10, H⟩ := H
  replace H : ((path_Parse.f (⟨#[47, 97, 47, 46, 46, 47, 98]⟩ : ByteArray)).bind fun bt111 => ((path_Join.f (([(⟨#[97]⟩ : ByteArray), (⟨#[98]⟩ : ByteArray)] : List ByteArray))).bind fun bt119 => ((slabvaultlaw17_texts.f k t106 (([(⟨#[97]⟩ : ByteArray), (⟨#[98]⟩ : ByteArray)] : List ByteArray))).bind fun t125 => (if t125 = true then (if t108 = 0 then (if bt111.2.1 = 1 then (if bt111.2.2 = 8 then (if bt119.1.toList = ([47, 97, 47, 98] : List UInt8) then (if bt119.2.2 = 0 then (some true) else (some false)) else (some false)) else (some false)) else (some false)) else (some false)) else (some false))))) = some r := H
  have A1 := Aside0.mk A10
  clear A10
  replace H := Option.bind_eq_some_iff.mp H
  obtain ⟨⟨t111, t112, t113⟩, A20, H⟩ := H
  replace H : ((path_Join.f (([(⟨#[97]⟩ : ByteArray), (⟨#[98]⟩ : ByteArray)] : List ByteArray))).bind fun bt119 => ((slabvaultlaw17_texts.f k t106 (([(⟨#[97]⟩ : ByteArray), (⟨#[98]⟩ : ByteArray)] : List ByteArray))).bind fun t125 => (if t125 = true then (if t108 = 0 then (if t112 = 1 then (if t113 = 8 then (if bt119.1.toList = ([47, 97, 47, 98] : List UInt8) then (if bt119.2.2 = 0 then (some true) else (some false)) else (some false)) else (some false)) else (some false)) else (some false)) else (some false)))) = some r := H
  have A2 := Aside0.mk A20
  clear A20
  obtain ⟨y116, hy116⟩ : ∃ y_ : List ByteArray, y_ = (([(⟨#[97]⟩ : ByteArray), (⟨#[98]⟩ : ByteArray)] : List ByteArray)) := ⟨_, rfl⟩
  replace H : ((path_Join.f y116).bind fun bt119 => ((slabvaultlaw17_texts.f k t106 (([(⟨#[97]⟩ : ByteArray), (⟨#[98]⟩ : ByteArray)] : List ByteArray))).bind fun t125 => (if t125 = true then (if t108 = 0 then (if t112 = 1 then (if t113 = 8 then (if bt119.1.toList = ([47, 97, 47, 98] : List UInt8) then (if bt119.2.2 = 0 then (some true) else (some false)) else (some false)) else (some false)) else (some false)) else (some false)) else (some false)))) = some r := by first | (rw [hy116]; with_reducible exact H) | (have H2_ := (Option.bind_some _ _).symm.trans H; rw [hy116]; with_reducible exact H2_) | (have H2_ := (Option.bind_some _ _).symm.trans H; with_reducible exact H2_) | with_reducible exact H | (rw [hy116]; exact H) | exact H
  have Ny116 := Aside0.mk hy116
  clear hy116
  replace H := Option.bind_eq_some_iff.mp H
  obtain ⟨⟨t119, t120, t121⟩, A30, H⟩ := H
  replace H : ((slabvaultlaw17_texts.f k t106 (([(⟨#[97]⟩ : ByteArray), (⟨#[98]⟩ : ByteArray)] : List ByteArray))).bind fun t125 => (if t125 = true then (if t108 = 0 then (if t112 = 1 then (if t113 = 8 then (if t119.toList = ([47, 97, 47, 98] : List UInt8) then (if t121 = 0 then (some true) else (some false)) else (some false)) else (some false)) else (some false)) else (some false)) else (some false))) = some r := H
  have A3 := Aside0.mk A30
  clear A30
  obtain ⟨y122, hy122⟩ : ∃ y_ : List ByteArray, y_ = (([(⟨#[97]⟩ : ByteArray), (⟨#[98]⟩ : ByteArray)] : List ByteArray)) := ⟨_, rfl⟩
  replace H : ((slabvaultlaw17_texts.f k t106 y122).bind fun t125 => (if t125 = true then (if t108 = 0 then (if t112 = 1 then (if t113 = 8 then (if t119.toList = ([47, 97, 47, 98] : List UInt8) then (if t121 = 0 then (some true) else (some false)) else (some false)) else (some false)) else (some false)) else (some false)) else (some false))) = some r := by first | (rw [hy122]; with_reducible exact H) | (have H2_ := (Option.bind_some _ _).symm.trans H; rw [hy122]; with_reducible exact H2_) | (have H2_ := (Option.bind_some _ _).symm.trans H; with_reducible exact H2_) | with_reducible exact H | (rw [hy122]; exact H) | exact H
  have Ny122 := Aside0.mk hy122
  clear hy122
  replace H := Option.bind_eq_some_iff.mp H
  obtain ⟨t125, A40, H⟩ := H
  replace H : (if t125 = true then (if t108 = 0 then (if t112 = 1 then (if t113 = 8 then (if t119.toList = ([47, 97, 47, 98] : List UInt8) then (if t121 = 0 then (some true) else (some false)) else (some false)) else (some false)) else (some false)) else (some false)) else (some false)) = some r := H
  have A4 := Aside0.mk A40
  clear A40
  by_cases c5 : t125 = true
  · subst c5
    have H1 : (if t108 = 0 then (if t112 = 1 then (if t113 = 8 then (if t119.toList = ([47, 97, 47, 98] : List UInt8) then (if t121 = 0 then (some true) else (some false)) else (some false)) else (some false)) else (some false)) else (some false)) = some r := by rw [if_pos rfl] at H; exact H
    clear H
    have H := H1
    clear H1
    by_cases c6 : t108 = 0
    · rw [if_pos c6] at H
      have c6b0 : (t108 == 0) = true := beq_iff_eq.mpr c6
      have c6b1 : (t108 != 0) = false := bne_eq_false_iff_eq.mpr c6
      clear c6
      by_cases c7 : t112 = 1
      · rw [if_pos c7] at H
        have c7b0 : (t112 == 1) = true := beq_iff_eq.mpr c7
        have c7b1 : (t112 != 1) = false := bne_eq_false_iff_eq.mpr c7
        clear c7
        by_cases c8 : t113 = 8
        · rw [if_pos c8] at H
          have c8b0 : (t113 == 8) = true := beq_iff_eq.mpr c8
          have c8b1 : (t113 != 8) = false := bne_eq_false_iff_eq.mpr c8
          clear c8
          by_cases c9 : t119.toList = ([47, 97, 47, 98] : List UInt8)
          · rw [if_pos c9] at H
            have c9b0 : (t119.toList == ([47, 97, 47, 98] : List UInt8)) = true := beq_iff_eq.mpr c9
            have c9b1 : (t119.toList != ([47, 97, 47, 98] : List UInt8)) = false := bne_eq_false_iff_eq.mpr c9
            clear c9
            by_cases c10 : t121 = 0
            · rw [if_pos c10] at H
              have c10b0 : (t121 == 0) = true := beq_iff_eq.mpr c10
              have c10b1 : (t121 != 0) = false := bne_eq_false_iff_eq.mpr c10
              clear c10
              obtain rfl := Option.some.inj H
              go_enter Tryd.func12, Tryd.ntmps12
              go_wp2_with (first | ((with_reducible refine gate_callee (f := 13) rfl ?_); refine goesL_ (some 11) rfl rfl Tryd.func13 (by kernel_rfl) rfl #[.string (⟨#[47, 97, 47, 47, 46, 47, 98, 47]⟩ : ByteArray)] rfl (by (try simp only [List.map_toArray, List.map_cons, List.map_nil]); first | done | rfl | (simp only [List.length_drop, List.length_take]; rfl)) ?_; (with_reducible refine (path_Parse.calls (⟨#[47, 97, 47, 47, 46, 47, 98, 47]⟩ : ByteArray) t106 t107 t108 _ (lay_below HLAY_.out (by repeat (first | (with_reducible first | exact HB.out | apply below_alloc | apply pw_below_drewN | apply below_drew1) | exact HB.out))) A1.out).mono ?_); rintro e w11 ⟨v109, rfl, ho0, hb⟩; refine ⟨_, rfl, ?_⟩; have n0_ := Aside0.mk (Kd.R_lower ho0 (below_size (by repeat (first | (with_reducible first | exact HB.out | apply below_alloc | apply pw_below_drewN | apply below_drew1) | exact HB.out)))); have n1_ := Aside0.mk (below_step (by repeat (first | (with_reducible first | exact HB.out | apply below_alloc | apply pw_below_drewN | apply below_drew1) | exact HB.out)) hb); clear HB; have HO110 := n0_; have HB := n1_; clear n0_ n1_; (try clear hb); (try clear hb2); (try clear hk); (try clear hi); (try clear ho0)) | ((with_reducible refine gate_callee (f := 13) rfl ?_); refine goesL_ (some 16) rfl rfl Tryd.func13 (by kernel_rfl) rfl #[.string (⟨#[47, 97, 47, 46, 46, 47, 98]⟩ : ByteArray)] rfl (by (try simp only [List.map_toArray, List.map_cons, List.map_nil]); first | done | rfl | (simp only [List.length_drop, List.length_take]; rfl)) ?_; (with_reducible refine (path_Parse.calls (⟨#[47, 97, 47, 46, 46, 47, 98]⟩ : ByteArray) t111 t112 t113 _ (lay_below HLAY_.out (by repeat (first | (with_reducible first | exact HB.out | apply below_alloc | apply pw_below_drewN | apply below_drew1) | exact HB.out))) A2.out).mono ?_); rintro e w12 ⟨v114, rfl, ho0, hb⟩; refine ⟨_, rfl, ?_⟩; have n0_ := Aside0.mk (Kd.R_elder' (by (with_reducible repeat (first | apply Kd.R_alloc | apply Kd.R_drewN | apply Kd.R_drew)); exact HO110.out) (Kd.R_base ho0) hb); have n1_ := Aside0.mk (Kd.R_lower (Kd.R_new' ho0 (Kd.R_lt (by (with_reducible repeat (first | apply Kd.R_alloc | apply Kd.R_drewN | apply Kd.R_drew)); exact HO110.out))) (below_size (by repeat (first | (with_reducible first | exact HB.out | apply below_alloc | apply pw_below_drewN | apply below_drew1) | exact HB.out)))); have n2_ := Aside0.mk (below_step (by repeat (first | (with_reducible first | exact HB.out | apply below_alloc | apply pw_below_drewN | apply below_drew1) | exact HB.out)) hb); clear HO110; clear HB; have HO110 := n0_; have HO115 := n1_; have HB := n2_; clear n0_ n1_ n2_; (try clear hb); (try clear hb2); (try clear hk); (try clear hi); (try clear ho0)) | ((with_reducible refine gate_dst (N := 21) rfl ?_); refine Kd.R_lit Kd.string _ 9 ?hg (N := 21) ?hd (xs := ([(⟨#[97]⟩ : ByteArray), (⟨#[98]⟩ : ByteArray)] : List ByteArray)) (inner := [.string (⟨#[97]⟩ : ByteArray), .string (⟨#[98]⟩ : ByteArray)]) (ok := fun _ => True) (okp := fun _ => True) ?hr ?hp (fun _ hk => hk) trivial (Below.refl _ _) (Nat.le_refl _) (by simp) ?_; (case hd => rfl); (case hg => rfl); (case hr => first | (go_simp; done) | (go_simp; rfl)); (case hp => exact (Reps.one (show Kd.M Kd.string _ _ _ (⟨#[97]⟩ : ByteArray) [.string (⟨#[97]⟩ : ByteArray)] from rfl) (Reps.one (show Kd.M Kd.string _ _ _ (⟨#[98]⟩ : ByteArray) [.string (⟨#[98]⟩ : ByteArray)] from rfl) (Reps.none _ _)))); intro v117 w13 ho14 hb hg_ hnew_; clear hg_ hnew_; (first | rw [← Ny116.out] at ho14 | (simp only [Int.reduceToNat] at ho14; rw [← Ny116.out] at ho14)); have n0_ := Aside0.mk (Kd.R_elder' (by (with_reducible repeat (first | apply Kd.R_alloc | apply Kd.R_drewN | apply Kd.R_drew)); exact HO110.out) (Kd.R_base ho14) hb); have n1_ := Aside0.mk (Kd.R_elder' (by (with_reducible repeat (first | apply Kd.R_alloc | apply Kd.R_drewN | apply Kd.R_drew)); exact HO115.out) (Kd.R_base ho14) hb); have n2_ := Aside0.mk (Kd.R_lower (Kd.R_new' (Kd.R_new' ho14 (Kd.R_lt (by (with_reducible repeat (first | apply Kd.R_alloc | apply Kd.R_drewN | apply Kd.R_drew)); exact HO110.out))) (Kd.R_lt (by (with_reducible repeat (first | apply Kd.R_alloc | apply Kd.R_drewN | apply Kd.R_drew)); exact HO115.out))) (below_size (by repeat (first | (with_reducible first | exact HB.out | apply below_alloc | apply pw_below_drewN | apply below_drew1) | exact HB.out)))); have n3_ := Aside0.mk (below_step (by repeat (first | (with_reducible first | exact HB.out | apply below_alloc | apply pw_below_drewN | apply below_drew1) | exact HB.out)) hb); clear HO110; clear HO115; clear HB; have HO110 := n0_; have HO115 := n1_; have HO118 := n2_; have HB := n3_; clear n0_ n1_ n2_ n3_; clear hb ho14; obtain ⟨Ao15, co15, eo15⟩ := Kd.R_slice HO118.out; subst eo15) | ((with_reducible refine gate_callee (f := 16) rfl ?_); refine goesL_ (some 22) rfl rfl Tryd.func16 (by kernel_rfl) rfl #[.slice Ao15 y116.length co15] rfl (by (try simp only [List.map_toArray, List.map_cons, List.map_nil]); first | done | rfl | (simp only [List.length_drop, List.length_take]; rfl)) ?_; (with_reducible refine (path_Join.calls _ _ y116 t119 t120 t121 _ ?side1 ?side2 (lay_below HLAY_.out (by repeat (first | (with_reducible first | exact HB.out | apply below_alloc | apply pw_below_drewN | apply below_drew1) | exact HB.out))) A3.out).mono ?_); (case side1 => repeat (first | exact (Kd.R_reads' HO118.out).2.2 | (with_reducible refine Kd.C_alloc ?_ _) | (with_reducible refine Kd.C_drewN ?_ _) | (with_reducible refine Kd.C_drew ?_))); (case side2 => exact (Kd.R_reads' HO118.out).2.1); rintro e w16 ⟨rfl, hb⟩; refine ⟨_, rfl, ?_⟩; have n0_ := Aside0.mk (Kd.R_below (by (with_reducible repeat (first | apply Kd.R_alloc | apply Kd.R_drewN | apply Kd.R_drew)); exact HO110.out) hb); have n1_ := Aside0.mk (Kd.R_below (by (with_reducible repeat (first | apply Kd.R_alloc | apply Kd.R_drewN | apply Kd.R_drew)); exact HO115.out) hb); have n2_ := Aside0.mk (Kd.R_below (by (with_reducible repeat (first | apply Kd.R_alloc | apply Kd.R_drewN | apply Kd.R_drew)); exact HO118.out) hb); have n3_ := Aside0.mk (below_step (by repeat (first | (with_reducible first | exact HB.out | apply below_alloc | apply pw_below_drewN | apply below_drew1) | exact HB.out)) hb); clear HO110; clear HO115; clear HO118; clear HB; have HO110 := n0_; have HO115 := n1_; have HO118 := n2_; have HB := n3_; clear n0_ n1_ n2_ n3_; (try clear hb); (try clear hb2); (try clear hk); (try clear hi)) | ((with_reducible refine gate_dst (N := 27) rfl ?_); refine Kd.R_lit Kd.string _ 9 ?hg (N := 27) ?hd (xs := ([(⟨#[97]⟩ : ByteArray), (⟨#[98]⟩ : ByteArray)] : List ByteArray)) (inner := [.string (⟨#[97]⟩ : ByteArray), .string (⟨#[98]⟩ : ByteArray)]) (ok := fun _ => True) (okp := fun _ => True) ?hr ?hp (fun _ hk => hk) trivial (Below.refl _ _) (Nat.le_refl _) (by simp) ?_; (case hd => rfl); (case hg => rfl); (case hr => first | (go_simp; done) | (go_simp; rfl)); (case hp => exact (Reps.one (show Kd.M Kd.string _ _ _ (⟨#[97]⟩ : ByteArray) [.string (⟨#[97]⟩ : ByteArray)] from rfl) (Reps.one (show Kd.M Kd.string _ _ _ (⟨#[98]⟩ : ByteArray) [.string (⟨#[98]⟩ : ByteArray)] from rfl) (Reps.none _ _)))); intro v123 w17 ho18 hb hg_ hnew_; clear hg_ hnew_; (first | rw [← Ny122.out] at ho18 | (simp only [Int.reduceToNat] at ho18; rw [← Ny122.out] at ho18)); have n0_ := Aside0.mk (Kd.R_elder' (by (with_reducible repeat (first | apply Kd.R_alloc | apply Kd.R_drewN | apply Kd.R_drew)); exact HO110.out) (Kd.R_base ho18) hb); have n1_ := Aside0.mk (Kd.R_elder' (by (with_reducible repeat (first | apply Kd.R_alloc | apply Kd.R_drewN | apply Kd.R_drew)); exact HO115.out) (Kd.R_base ho18) hb); have n2_ := Aside0.mk (Kd.R_elder' (by (with_reducible repeat (first | apply Kd.R_alloc | apply Kd.R_drewN | apply Kd.R_drew)); exact HO118.out) (Kd.R_base ho18) hb); have n3_ := Aside0.mk (Kd.R_lower (Kd.R_new' (Kd.R_new' (Kd.R_new' ho18 (Kd.R_lt (by (with_reducible repeat (first | apply Kd.R_alloc | apply Kd.R_drewN | apply Kd.R_drew)); exact HO110.out))) (Kd.R_lt (by (with_reducible repeat (first | apply Kd.R_alloc | apply Kd.R_drewN | apply Kd.R_drew)); exact HO115.out))) (Kd.R_lt (by (with_reducible repeat (first | apply Kd.R_alloc | apply Kd.R_drewN | apply Kd.R_drew)); exact HO118.out))) (below_size (by repeat (first | (with_reducible first | exact HB.out | apply below_alloc | apply pw_below_drewN | apply below_drew1) | exact HB.out)))); have n4_ := Aside0.mk (below_step (by repeat (first | (with_reducible first | exact HB.out | apply below_alloc | apply pw_below_drewN | apply below_drew1) | exact HB.out)) hb); clear HO110; clear HO115; clear HO118; clear HB; have HO110 := n0_; have HO115 := n1_; have HO118 := n2_; have HO124 := n3_; have HB := n4_; clear n0_ n1_ n2_ n3_ n4_; clear hb ho18; obtain ⟨Ao19, co19, eo19⟩ := Kd.R_slice HO110.out; subst eo19; obtain ⟨Ao20, co20, eo20⟩ := Kd.R_slice HO124.out; subst eo20) | ((with_reducible refine gate_callee (f := 15) rfl ?_); refine goesL_ (some 28) rfl rfl Tryd.func15 (by kernel_rfl) rfl #[.slice Ao19 t106.length co19, .slice Ao20 y122.length co20] rfl (by (try simp only [List.map_toArray, List.map_cons, List.map_nil]); first | done | rfl | (simp only [List.length_drop, List.length_take]; rfl)) ?_; (with_reducible refine (slabvaultlaw17_texts.calls k _ _ t106 _ _ y122 true _ ?side1 ?side2 ?side3 ?side4 A4.out).mono ?_); (case side1 => repeat (first | exact (Kd.R_reads' HO110.out).2.2 | (with_reducible refine Kd.C_alloc ?_ _) | (with_reducible refine Kd.C_drewN ?_ _) | (with_reducible refine Kd.C_drew ?_))); (case side2 => exact (Kd.R_reads' HO110.out).2.1); (case side3 => repeat (first | exact (Kd.R_reads' HO124.out).2.2 | (with_reducible refine Kd.C_alloc ?_ _) | (with_reducible refine Kd.C_drewN ?_ _) | (with_reducible refine Kd.C_drew ?_))); (case side4 => exact (Kd.R_reads' HO124.out).2.1); rintro e w' ⟨rfl, ⟨nd, rfl⟩⟩; refine ⟨_, rfl, ?_⟩))
              go_ret
              exact ⟨by first | rfl | (simp [errW_none, errW_some] <;> rfl) | (simp [*, errW_none, errW_some] <;> rfl), by repeat (first | (with_reducible first | exact HB.out | apply below_alloc | apply pw_below_drewN | apply below_drew1) | exact HB.out)⟩
            · rw [if_neg c10] at H
              have c10b0 : (t121 == 0) = false := beq_eq_false_iff_ne.mpr c10
              have c10b1 : (t121 != 0) = true := bne_iff_ne.mpr c10
              obtain rfl := Option.some.inj H
              go_enter Tryd.func12, Tryd.ntmps12
              go_wp2_with (first | ((with_reducible refine gate_callee (f := 13) rfl ?_); refine goesL_ (some 11) rfl rfl Tryd.func13 (by kernel_rfl) rfl #[.string (⟨#[47, 97, 47, 47, 46, 47, 98, 47]⟩ : ByteArray)] rfl (by (try simp only [List.map_toArray, List.map_cons, List.map_nil]); first | done | rfl | (simp only [List.length_drop, List.length_take]; rfl)) ?_; (with_reducible refine (path_Parse.calls (⟨#[47, 97, 47, 47, 46, 47, 98, 47]⟩ : ByteArray) t106 t107 t108 _ (lay_below HLAY_.out (by repeat (first | (with_reducible first | exact HB.out | apply below_alloc | apply pw_below_drewN | apply below_drew1) | exact HB.out))) A1.out).mono ?_); rintro e w21 ⟨v109, rfl, ho0, hb⟩; refine ⟨_, rfl, ?_⟩; have n0_ := Aside0.mk (Kd.R_lower ho0 (below_size (by repeat (first | (with_reducible first | exact HB.out | apply below_alloc | apply pw_below_drewN | apply below_drew1) | exact HB.out)))); have n1_ := Aside0.mk (below_step (by repeat (first | (with_reducible first | exact HB.out | apply below_alloc | apply pw_below_drewN | apply below_drew1) | exact HB.out)) hb); clear HB; have HO110 := n0_; have HB := n1_; clear n0_ n1_; (try clear hb); (try clear hb2); (try clear hk); (try clear hi); (try clear ho0)) | ((with_reducible refine gate_callee (f := 13) rfl ?_); refine goesL_ (some 16) rfl rfl Tryd.func13 (by kernel_rfl) rfl #[.string (⟨#[47, 97, 47, 46, 46, 47, 98]⟩ : ByteArray)] rfl (by (try simp only [List.map_toArray, List.map_cons, List.map_nil]); first | done | rfl | (simp only [List.length_drop, List.length_take]; rfl)) ?_; (with_reducible refine (path_Parse.calls (⟨#[47, 97, 47, 46, 46, 47, 98]⟩ : ByteArray) t111 t112 t113 _ (lay_below HLAY_.out (by repeat (first | (with_reducible first | exact HB.out | apply below_alloc | apply pw_below_drewN | apply below_drew1) | exact HB.out))) A2.out).mono ?_); rintro e w22 ⟨v114, rfl, ho0, hb⟩; refine ⟨_, rfl, ?_⟩; have n0_ := Aside0.mk (Kd.R_elder' (by (with_reducible repeat (first | apply Kd.R_alloc | apply Kd.R_drewN | apply Kd.R_drew)); exact HO110.out) (Kd.R_base ho0) hb); have n1_ := Aside0.mk (Kd.R_lower (Kd.R_new' ho0 (Kd.R_lt (by (with_reducible repeat (first | apply Kd.R_alloc | apply Kd.R_drewN | apply Kd.R_drew)); exact HO110.out))) (below_size (by repeat (first | (with_reducible first | exact HB.out | apply below_alloc | apply pw_below_drewN | apply below_drew1) | exact HB.out)))); have n2_ := Aside0.mk (below_step (by repeat (first | (with_reducible first | exact HB.out | apply below_alloc | apply pw_below_drewN | apply below_drew1) | exact HB.out)) hb); clear HO110; clear HB; have HO110 := n0_; have HO115 := n1_; have HB := n2_; clear n0_ n1_ n2_; (try clear hb); (try clear hb2); (try clear hk); (try clear hi); (try clear ho0)) | ((with_reducible refine gate_dst (N := 21) rfl ?_); refine Kd.R_lit Kd.string _ 9 ?hg (N := 21) ?hd (xs := ([(⟨#[97]⟩ : ByteArray), (⟨#[98]⟩ : ByteArray)] : List ByteArray)) (inner := [.string (⟨#[97]⟩ : ByteArray), .string (⟨#[98]⟩ : ByteArray)]) (ok := fun _ => True) (okp := fun _ => True) ?hr ?hp (fun _ hk => hk) trivial (Below.refl _ _) (Nat.le_refl _) (by simp) ?_; (case hd => rfl); (case hg => rfl); (case hr => first | (go_simp; done) | (go_simp; rfl)); (case hp => exact (Reps.one (show Kd.M Kd.string _ _ _ (⟨#[97]⟩ : ByteArray) [.string (⟨#[97]⟩ : ByteArray)] from rfl) (Reps.one (show Kd.M Kd.string _ _ _ (⟨#[98]⟩ : ByteArray) [.string (⟨#[98]⟩ : ByteArray)] from rfl) (Reps.none _ _)))); intro v117 w23 ho24 hb hg_ hnew_; clear hg_ hnew_; (first | rw [← Ny116.out] at ho24 | (simp only [Int.reduceToNat] at ho24; rw [← Ny116.out] at ho24)); have n0_ := Aside0.mk (Kd.R_elder' (by (with_reducible repeat (first | apply Kd.R_alloc | apply Kd.R_drewN | apply Kd.R_drew)); exact HO110.out) (Kd.R_base ho24) hb); have n1_ := Aside0.mk (Kd.R_elder' (by (with_reducible repeat (first | apply Kd.R_alloc | apply Kd.R_drewN | apply Kd.R_drew)); exact HO115.out) (Kd.R_base ho24) hb); have n2_ := Aside0.mk (Kd.R_lower (Kd.R_new' (Kd.R_new' ho24 (Kd.R_lt (by (with_reducible repeat (first | apply Kd.R_alloc | apply Kd.R_drewN | apply Kd.R_drew)); exact HO110.out))) (Kd.R_lt (by (with_reducible repeat (first | apply Kd.R_alloc | apply Kd.R_drewN | apply Kd.R_drew)); exact HO115.out))) (below_size (by repeat (first | (with_reducible first | exact HB.out | apply below_alloc | apply pw_below_drewN | apply below_drew1) | exact HB.out)))); have n3_ := Aside0.mk (below_step (by repeat (first | (with_reducible first | exact HB.out | apply below_alloc | apply pw_below_drewN | apply below_drew1) | exact HB.out)) hb); clear HO110; clear HO115; clear HB; have HO110 := n0_; have HO115 := n1_; have HO118 := n2_; have HB := n3_; clear n0_ n1_ n2_ n3_; clear hb ho24; obtain ⟨Ao25, co25, eo25⟩ := Kd.R_slice HO118.out; subst eo25) | ((with_reducible refine gate_callee (f := 16) rfl ?_); refine goesL_ (some 22) rfl rfl Tryd.func16 (by kernel_rfl) rfl #[.slice Ao25 y116.length co25] rfl (by (try simp only [List.map_toArray, List.map_cons, List.map_nil]); first | done | rfl | (simp only [List.length_drop, List.length_take]; rfl)) ?_; (with_reducible refine (path_Join.calls _ _ y116 t119 t120 t121 _ ?side1 ?side2 (lay_below HLAY_.out (by repeat (first | (with_reducible first | exact HB.out | apply below_alloc | apply pw_below_drewN | apply below_drew1) | exact HB.out))) A3.out).mono ?_); (case side1 => repeat (first | exact (Kd.R_reads' HO118.out).2.2 | (with_reducible refine Kd.C_alloc ?_ _) | (with_reducible refine Kd.C_drewN ?_ _) | (with_reducible refine Kd.C_drew ?_))); (case side2 => exact (Kd.R_reads' HO118.out).2.1); rintro e w26 ⟨rfl, hb⟩; refine ⟨_, rfl, ?_⟩; have n0_ := Aside0.mk (Kd.R_below (by (with_reducible repeat (first | apply Kd.R_alloc | apply Kd.R_drewN | apply Kd.R_drew)); exact HO110.out) hb); have n1_ := Aside0.mk (Kd.R_below (by (with_reducible repeat (first | apply Kd.R_alloc | apply Kd.R_drewN | apply Kd.R_drew)); exact HO115.out) hb); have n2_ := Aside0.mk (Kd.R_below (by (with_reducible repeat (first | apply Kd.R_alloc | apply Kd.R_drewN | apply Kd.R_drew)); exact HO118.out) hb); have n3_ := Aside0.mk (below_step (by repeat (first | (with_reducible first | exact HB.out | apply below_alloc | apply pw_below_drewN | apply below_drew1) | exact HB.out)) hb); clear HO110; clear HO115; clear HO118; clear HB; have HO110 := n0_; have HO115 := n1_; have HO118 := n2_; have HB := n3_; clear n0_ n1_ n2_ n3_; (try clear hb); (try clear hb2); (try clear hk); (try clear hi)) | ((with_reducible refine gate_dst (N := 27) rfl ?_); refine Kd.R_lit Kd.string _ 9 ?hg (N := 27) ?hd (xs := ([(⟨#[97]⟩ : ByteArray), (⟨#[98]⟩ : ByteArray)] : List ByteArray)) (inner := [.string (⟨#[97]⟩ : ByteArray), .string (⟨#[98]⟩ : ByteArray)]) (ok := fun _ => True) (okp := fun _ => True) ?hr ?hp (fun _ hk => hk) trivial (Below.refl _ _) (Nat.le_refl _) (by simp) ?_; (case hd => rfl); (case hg => rfl); (case hr => first | (go_simp; done) | (go_simp; rfl)); (case hp => exact (Reps.one (show Kd.M Kd.string _ _ _ (⟨#[97]⟩ : ByteArray) [.string (⟨#[97]⟩ : ByteArray)] from rfl) (Reps.one (show Kd.M Kd.string _ _ _ (⟨#[98]⟩ : ByteArray) [.string (⟨#[98]⟩ : ByteArray)] from rfl) (Reps.none _ _)))); intro v123 w27 ho28 hb hg_ hnew_; clear hg_ hnew_; (first | rw [← Ny122.out] at ho28 | (simp only [Int.reduceToNat] at ho28; rw [← Ny122.out] at ho28)); have n0_ := Aside0.mk (Kd.R_elder' (by (with_reducible repeat (first | apply Kd.R_alloc | apply Kd.R_drewN | apply Kd.R_drew)); exact HO110.out) (Kd.R_base ho28) hb); have n1_ := Aside0.mk (Kd.R_elder' (by (with_reducible repeat (first | apply Kd.R_alloc | apply Kd.R_drewN | apply Kd.R_drew)); exact HO115.out) (Kd.R_base ho28) hb); have n2_ := Aside0.mk (Kd.R_elder' (by (with_reducible repeat (first | apply Kd.R_alloc | apply Kd.R_drewN | apply Kd.R_drew)); exact HO118.out) (Kd.R_base ho28) hb); have n3_ := Aside0.mk (Kd.R_lower (Kd.R_new' (Kd.R_new' (Kd.R_new' ho28 (Kd.R_lt (by (with_reducible repeat (first | apply Kd.R_alloc | apply Kd.R_drewN | apply Kd.R_drew)); exact HO110.out))) (Kd.R_lt (by (with_reducible repeat (first | apply Kd.R_alloc | apply Kd.R_drewN | apply Kd.R_drew)); exact HO115.out))) (Kd.R_lt (by (with_reducible repeat (first | apply Kd.R_alloc | apply Kd.R_drewN | apply Kd.R_drew)); exact HO118.out))) (below_size (by repeat (first | (with_reducible first | exact HB.out | apply below_alloc | apply pw_below_drewN | apply below_drew1) | exact HB.out)))); have n4_ := Aside0.mk (below_step (by repeat (first | (with_reducible first | exact HB.out | apply below_alloc | apply pw_below_drewN | apply below_drew1) | exact HB.out)) hb); clear HO110; clear HO115; clear HO118; clear HB; have HO110 := n0_; have HO115 := n1_; have HO118 := n2_; have HO124 := n3_; have HB := n4_; clear n0_ n1_ n2_ n3_ n4_; clear hb ho28; obtain ⟨Ao29, co29, eo29⟩ := Kd.R_slice HO110.out; subst eo29; obtain ⟨Ao30, co30, eo30⟩ := Kd.R_slice HO124.out; subst eo30) | ((with_reducible refine gate_callee (f := 15) rfl ?_); refine goesL_ (some 28) rfl rfl Tryd.func15 (by kernel_rfl) rfl #[.slice Ao29 t106.length co29, .slice Ao30 y122.length co30] rfl (by (try simp only [List.map_toArray, List.map_cons, List.map_nil]); first | done | rfl | (simp only [List.length_drop, List.length_take]; rfl)) ?_; (with_reducible refine (slabvaultlaw17_texts.calls k _ _ t106 _ _ y122 true _ ?side1 ?side2 ?side3 ?side4 A4.out).mono ?_); (case side1 => repeat (first | exact (Kd.R_reads' HO110.out).2.2 | (with_reducible refine Kd.C_alloc ?_ _) | (with_reducible refine Kd.C_drewN ?_ _) | (with_reducible refine Kd.C_drew ?_))); (case side2 => exact (Kd.R_reads' HO110.out).2.1); (case side3 => repeat (first | exact (Kd.R_reads' HO124.out).2.2 | (with_reducible refine Kd.C_alloc ?_ _) | (with_reducible refine Kd.C_drewN ?_ _) | (with_reducible refine Kd.C_drew ?_))); (case side4 => exact (Kd.R_reads' HO124.out).2.1); rintro e w' ⟨rfl, ⟨nd, rfl⟩⟩; refine ⟨_, rfl, ?_⟩))
              go_ret
              exact ⟨by first | rfl | (simp [errW_none, errW_some] <;> rfl) | (simp [*, errW_none, errW_some] <;> rfl), by repeat (first | (with_reducible first | exact HB.out | apply below_alloc | apply pw_below_drewN | apply below_drew1) | exact HB.out)⟩
          · rw [if_neg c9] at H
            have c9b0 : (t119.toList == ([47, 97, 47, 98] : List UInt8)) = false := beq_eq_false_iff_ne.mpr c9
            have c9b1 : (t119.toList != ([47, 97, 47, 98] : List UInt8)) = true := bne_iff_ne.mpr c9
            obtain rfl := Option.some.inj H
            go_enter Tryd.func12, Tryd.ntmps12
            go_wp2_with (first | ((with_reducible refine gate_callee (f := 13) rfl ?_); refine goesL_ (some 11) rfl rfl Tryd.func13 (by kernel_rfl) rfl #[.string (⟨#[47, 97, 47, 47, 46, 47, 98, 47]⟩ : ByteArray)] rfl (by (try simp only [List.map_toArray, List.map_cons, List.map_nil]); first | done | rfl | (simp only [List.length_drop, List.length_take]; rfl)) ?_; (with_reducible refine (path_Parse.calls (⟨#[47, 97, 47, 47, 46, 47, 98, 47]⟩ : ByteArray) t106 t107 t108 _ (lay_below HLAY_.out (by repeat (first | (with_reducible first | exact HB.out | apply below_alloc | apply pw_below_drewN | apply below_drew1) | exact HB.out))) A1.out).mono ?_); rintro e w31 ⟨v109, rfl, ho0, hb⟩; refine ⟨_, rfl, ?_⟩; have n0_ := Aside0.mk (Kd.R_lower ho0 (below_size (by repeat (first | (with_reducible first | exact HB.out | apply below_alloc | apply pw_below_drewN | apply below_drew1) | exact HB.out)))); have n1_ := Aside0.mk (below_step (by repeat (first | (with_reducible first | exact HB.out | apply below_alloc | apply pw_below_drewN | apply below_drew1) | exact HB.out)) hb); clear HB; have HO110 := n0_; have HB := n1_; clear n0_ n1_; (try clear hb); (try clear hb2); (try clear hk); (try clear hi); (try clear ho0)) | ((with_reducible refine gate_callee (f := 13) rfl ?_); refine goesL_ (some 16) rfl rfl Tryd.func13 (by kernel_rfl) rfl #[.string (⟨#[47, 97, 47, 46, 46, 47, 98]⟩ : ByteArray)] rfl (by (try simp only [List.map_toArray, List.map_cons, List.map_nil]); first | done | rfl | (simp only [List.length_drop, List.length_take]; rfl)) ?_; (with_reducible refine (path_Parse.calls (⟨#[47, 97, 47, 46, 46, 47, 98]⟩ : ByteArray) t111 t112 t113 _ (lay_below HLAY_.out (by repeat (first | (with_reducible first | exact HB.out | apply below_alloc | apply pw_below_drewN | apply below_drew1) | exact HB.out))) A2.out).mono ?_); rintro e w32 ⟨v114, rfl, ho0, hb⟩; refine ⟨_, rfl, ?_⟩; have n0_ := Aside0.mk (Kd.R_elder' (by (with_reducible repeat (first | apply Kd.R_alloc | apply Kd.R_drewN | apply Kd.R_drew)); exact HO110.out) (Kd.R_base ho0) hb); have n1_ := Aside0.mk (Kd.R_lower (Kd.R_new' ho0 (Kd.R_lt (by (with_reducible repeat (first | apply Kd.R_alloc | apply Kd.R_drewN | apply Kd.R_drew)); exact HO110.out))) (below_size (by repeat (first | (with_reducible first | exact HB.out | apply below_alloc | apply pw_below_drewN | apply below_drew1) | exact HB.out)))); have n2_ := Aside0.mk (below_step (by repeat (first | (with_reducible first | exact HB.out | apply below_alloc | apply pw_below_drewN | apply below_drew1) | exact HB.out)) hb); clear HO110; clear HB; have HO110 := n0_; have HO115 := n1_; have HB := n2_; clear n0_ n1_ n2_; (try clear hb); (try clear hb2); (try clear hk); (try clear hi); (try clear ho0)) | ((with_reducible refine gate_dst (N := 21) rfl ?_); refine Kd.R_lit Kd.string _ 9 ?hg (N := 21) ?hd (xs := ([(⟨#[97]⟩ : ByteArray), (⟨#[98]⟩ : ByteArray)] : List ByteArray)) (inner := [.string (⟨#[97]⟩ : ByteArray), .string (⟨#[98]⟩ : ByteArray)]) (ok := fun _ => True) (okp := fun _ => True) ?hr ?hp (fun _ hk => hk) trivial (Below.refl _ _) (Nat.le_refl _) (by simp) ?_; (case hd => rfl); (case hg => rfl); (case hr => first | (go_simp; done) | (go_simp; rfl)); (case hp => exact (Reps.one (show Kd.M Kd.string _ _ _ (⟨#[97]⟩ : ByteArray) [.string (⟨#[97]⟩ : ByteArray)] from rfl) (Reps.one (show Kd.M Kd.string _ _ _ (⟨#[98]⟩ : ByteArray) [.string (⟨#[98]⟩ : ByteArray)] from rfl) (Reps.none _ _)))); intro v117 w33 ho34 hb hg_ hnew_; clear hg_ hnew_; (first | rw [← Ny116.out] at ho34 | (simp only [Int.reduceToNat] at ho34; rw [← Ny116.out] at ho34)); have n0_ := Aside0.mk (Kd.R_elder' (by (with_reducible repeat (first | apply Kd.R_alloc | apply Kd.R_drewN | apply Kd.R_drew)); exact HO110.out) (Kd.R_base ho34) hb); have n1_ := Aside0.mk (Kd.R_elder' (by (with_reducible repeat (first | apply Kd.R_alloc | apply Kd.R_drewN | apply Kd.R_drew)); exact HO115.out) (Kd.R_base ho34) hb); have n2_ := Aside0.mk (Kd.R_lower (Kd.R_new' (Kd.R_new' ho34 (Kd.R_lt (by (with_reducible repeat (first | apply Kd.R_alloc | apply Kd.R_drewN | apply Kd.R_drew)); exact HO110.out))) (Kd.R_lt (by (with_reducible repeat (first | apply Kd.R_alloc | apply Kd.R_drewN | apply Kd.R_drew)); exact HO115.out))) (below_size (by repeat (first | (with_reducible first | exact HB.out | apply below_alloc | apply pw_below_drewN | apply below_drew1) | exact HB.out)))); have n3_ := Aside0.mk (below_step (by repeat (first | (with_reducible first | exact HB.out | apply below_alloc | apply pw_below_drewN | apply below_drew1) | exact HB.out)) hb); clear HO110; clear HO115; clear HB; have HO110 := n0_; have HO115 := n1_; have HO118 := n2_; have HB := n3_; clear n0_ n1_ n2_ n3_; clear hb ho34; obtain ⟨Ao35, co35, eo35⟩ := Kd.R_slice HO118.out; subst eo35) | ((with_reducible refine gate_callee (f := 16) rfl ?_); refine goesL_ (some 22) rfl rfl Tryd.func16 (by kernel_rfl) rfl #[.slice Ao35 y116.length co35] rfl (by (try simp only [List.map_toArray, List.map_cons, List.map_nil]); first | done | rfl | (simp only [List.length_drop, List.length_take]; rfl)) ?_; (with_reducible refine (path_Join.calls _ _ y116 t119 t120 t121 _ ?side1 ?side2 (lay_below HLAY_.out (by repeat (first | (with_reducible first | exact HB.out | apply below_alloc | apply pw_below_drewN | apply below_drew1) | exact HB.out))) A3.out).mono ?_); (case side1 => repeat (first | exact (Kd.R_reads' HO118.out).2.2 | (with_reducible refine Kd.C_alloc ?_ _) | (with_reducible refine Kd.C_drewN ?_ _) | (with_reducible refine Kd.C_drew ?_))); (case side2 => exact (Kd.R_reads' HO118.out).2.1); rintro e w36 ⟨rfl, hb⟩; refine ⟨_, rfl, ?_⟩; have n0_ := Aside0.mk (Kd.R_below (by (with_reducible repeat (first | apply Kd.R_alloc | apply Kd.R_drewN | apply Kd.R_drew)); exact HO110.out) hb); have n1_ := Aside0.mk (Kd.R_below (by (with_reducible repeat (first | apply Kd.R_alloc | apply Kd.R_drewN | apply Kd.R_drew)); exact HO115.out) hb); have n2_ := Aside0.mk (Kd.R_below (by (with_reducible repeat (first | apply Kd.R_alloc | apply Kd.R_drewN | apply Kd.R_drew)); exact HO118.out) hb); have n3_ := Aside0.mk (below_step (by repeat (first | (with_reducible first | exact HB.out | apply below_alloc | apply pw_below_drewN | apply below_drew1) | exact HB.out)) hb); clear HO110; clear HO115; clear HO118; clear HB; have HO110 := n0_; have HO115 := n1_; have HO118 := n2_; have HB := n3_; clear n0_ n1_ n2_ n3_; (try clear hb); (try clear hb2); (try clear hk); (try clear hi)) | ((with_reducible refine gate_dst (N := 27) rfl ?_); refine Kd.R_lit Kd.string _ 9 ?hg (N := 27) ?hd (xs := ([(⟨#[97]⟩ : ByteArray), (⟨#[98]⟩ : ByteArray)] : List ByteArray)) (inner := [.string (⟨#[97]⟩ : ByteArray), .string (⟨#[98]⟩ : ByteArray)]) (ok := fun _ => True) (okp := fun _ => True) ?hr ?hp (fun _ hk => hk) trivial (Below.refl _ _) (Nat.le_refl _) (by simp) ?_; (case hd => rfl); (case hg => rfl); (case hr => first | (go_simp; done) | (go_simp; rfl)); (case hp => exact (Reps.one (show Kd.M Kd.string _ _ _ (⟨#[97]⟩ : ByteArray) [.string (⟨#[97]⟩ : ByteArray)] from rfl) (Reps.one (show Kd.M Kd.string _ _ _ (⟨#[98]⟩ : ByteArray) [.string (⟨#[98]⟩ : ByteArray)] from rfl) (Reps.none _ _)))); intro v123 w37 ho38 hb hg_ hnew_; clear hg_ hnew_; (first | rw [← Ny122.out] at ho38 | (simp only [Int.reduceToNat] at ho38; rw [← Ny122.out] at ho38)); have n0_ := Aside0.mk (Kd.R_elder' (by (with_reducible repeat (first | apply Kd.R_alloc | apply Kd.R_drewN | apply Kd.R_drew)); exact HO110.out) (Kd.R_base ho38) hb); have n1_ := Aside0.mk (Kd.R_elder' (by (with_reducible repeat (first | apply Kd.R_alloc | apply Kd.R_drewN | apply Kd.R_drew)); exact HO115.out) (Kd.R_base ho38) hb); have n2_ := Aside0.mk (Kd.R_elder' (by (with_reducible repeat (first | apply Kd.R_alloc | apply Kd.R_drewN | apply Kd.R_drew)); exact HO118.out) (Kd.R_base ho38) hb); have n3_ := Aside0.mk (Kd.R_lower (Kd.R_new' (Kd.R_new' (Kd.R_new' ho38 (Kd.R_lt (by (with_reducible repeat (first | apply Kd.R_alloc | apply Kd.R_drewN | apply Kd.R_drew)); exact HO110.out))) (Kd.R_lt (by (with_reducible repeat (first | apply Kd.R_alloc | apply Kd.R_drewN | apply Kd.R_drew)); exact HO115.out))) (Kd.R_lt (by (with_reducible repeat (first | apply Kd.R_alloc | apply Kd.R_drewN | apply Kd.R_drew)); exact HO118.out))) (below_size (by repeat (first | (with_reducible first | exact HB.out | apply below_alloc | apply pw_below_drewN | apply below_drew1) | exact HB.out)))); have n4_ := Aside0.mk (below_step (by repeat (first | (with_reducible first | exact HB.out | apply below_alloc | apply pw_below_drewN | apply below_drew1) | exact HB.out)) hb); clear HO110; clear HO115; clear HO118; clear HB; have HO110 := n0_; have HO115 := n1_; have HO118 := n2_; have HO124 := n3_; have HB := n4_; clear n0_ n1_ n2_ n3_ n4_; clear hb ho38; obtain ⟨Ao39, co39, eo39⟩ := Kd.R_slice HO110.out; subst eo39; obtain ⟨Ao40, co40, eo40⟩ := Kd.R_slice HO124.out; subst eo40) | ((with_reducible refine gate_callee (f := 15) rfl ?_); refine goesL_ (some 28) rfl rfl Tryd.func15 (by kernel_rfl) rfl #[.slice Ao39 t106.length co39, .slice Ao40 y122.length co40] rfl (by (try simp only [List.map_toArray, List.map_cons, List.map_nil]); first | done | rfl | (simp only [List.length_drop, List.length_take]; rfl)) ?_; (with_reducible refine (slabvaultlaw17_texts.calls k _ _ t106 _ _ y122 true _ ?side1 ?side2 ?side3 ?side4 A4.out).mono ?_); (case side1 => repeat (first | exact (Kd.R_reads' HO110.out).2.2 | (with_reducible refine Kd.C_alloc ?_ _) | (with_reducible refine Kd.C_drewN ?_ _) | (with_reducible refine Kd.C_drew ?_))); (case side2 => exact (Kd.R_reads' HO110.out).2.1); (case side3 => repeat (first | exact (Kd.R_reads' HO124.out).2.2 | (with_reducible refine Kd.C_alloc ?_ _) | (with_reducible refine Kd.C_drewN ?_ _) | (with_reducible refine Kd.C_drew ?_))); (case side4 => exact (Kd.R_reads' HO124.out).2.1); rintro e w' ⟨rfl, ⟨nd, rfl⟩⟩; refine ⟨_, rfl, ?_⟩))
            go_ret
            exact ⟨by first | rfl | (simp [errW_none, errW_some] <;> rfl) | (simp [*, errW_none, errW_some] <;> rfl), by repeat (first | (with_reducible first | exact HB.out | apply below_alloc | apply pw_below_drewN | apply below_drew1) | exact HB.out)⟩
        · rw [if_neg c8] at H
          have c8b0 : (t113 == 8) = false := beq_eq_false_iff_ne.mpr c8
          have c8b1 : (t113 != 8) = true := bne_iff_ne.mpr c8
          obtain rfl := Option.some.inj H
          go_enter Tryd.func12, Tryd.ntmps12
          go_wp2_with (first | ((with_reducible refine gate_callee (f := 13) rfl ?_); refine goesL_ (some 11) rfl rfl Tryd.func13 (by kernel_rfl) rfl #[.string (⟨#[47, 97, 47, 47, 46, 47, 98, 47]⟩ : ByteArray)] rfl (by (try simp only [List.map_toArray, List.map_cons, List.map_nil]); first | done | rfl | (simp only [List.length_drop, List.length_take]; rfl)) ?_; (with_reducible refine (path_Parse.calls (⟨#[47, 97, 47, 47, 46, 47, 98, 47]⟩ : ByteArray) t106 t107 t108 _ (lay_below HLAY_.out (by repeat (first | (with_reducible first | exact HB.out | apply below_alloc | apply pw_below_drewN | apply below_drew1) | exact HB.out))) A1.out).mono ?_); rintro e w41 ⟨v109, rfl, ho0, hb⟩; refine ⟨_, rfl, ?_⟩; have n0_ := Aside0.mk (Kd.R_lower ho0 (below_size (by repeat (first | (with_reducible first | exact HB.out | apply below_alloc | apply pw_below_drewN | apply below_drew1) | exact HB.out)))); have n1_ := Aside0.mk (below_step (by repeat (first | (with_reducible first | exact HB.out | apply below_alloc | apply pw_below_drewN | apply below_drew1) | exact HB.out)) hb); clear HB; have HO110 := n0_; have HB := n1_; clear n0_ n1_; (try clear hb); (try clear hb2); (try clear hk); (try clear hi); (try clear ho0)) | ((with_reducible refine gate_callee (f := 13) rfl ?_); refine goesL_ (some 16) rfl rfl Tryd.func13 (by kernel_rfl) rfl #[.string (⟨#[47, 97, 47, 46, 46, 47, 98]⟩ : ByteArray)] rfl (by (try simp only [List.map_toArray, List.map_cons, List.map_nil]); first | done | rfl | (simp only [List.length_drop, List.length_take]; rfl)) ?_; (with_reducible refine (path_Parse.calls (⟨#[47, 97, 47, 46, 46, 47, 98]⟩ : ByteArray) t111 t112 t113 _ (lay_below HLAY_.out (by repeat (first | (with_reducible first | exact HB.out | apply below_alloc | apply pw_below_drewN | apply below_drew1) | exact HB.out))) A2.out).mono ?_); rintro e w42 ⟨v114, rfl, ho0, hb⟩; refine ⟨_, rfl, ?_⟩; have n0_ := Aside0.mk (Kd.R_elder' (by (with_reducible repeat (first | apply Kd.R_alloc | apply Kd.R_drewN | apply Kd.R_drew)); exact HO110.out) (Kd.R_base ho0) hb); have n1_ := Aside0.mk (Kd.R_lower (Kd.R_new' ho0 (Kd.R_lt (by (with_reducible repeat (first | apply Kd.R_alloc | apply Kd.R_drewN | apply Kd.R_drew)); exact HO110.out))) (below_size (by repeat (first | (with_reducible first | exact HB.out | apply below_alloc | apply pw_below_drewN | apply below_drew1) | exact HB.out)))); have n2_ := Aside0.mk (below_step (by repeat (first | (with_reducible first | exact HB.out | apply below_alloc | apply pw_below_drewN | apply below_drew1) | exact HB.out)) hb); clear HO110; clear HB; have HO110 := n0_; have HO115 := n1_; have HB := n2_; clear n0_ n1_ n2_; (try clear hb); (try clear hb2); (try clear hk); (try clear hi); (try clear ho0)) | ((with_reducible refine gate_dst (N := 21) rfl ?_); refine Kd.R_lit Kd.string _ 9 ?hg (N := 21) ?hd (xs := ([(⟨#[97]⟩ : ByteArray), (⟨#[98]⟩ : ByteArray)] : List ByteArray)) (inner := [.string (⟨#[97]⟩ : ByteArray), .string (⟨#[98]⟩ : ByteArray)]) (ok := fun _ => True) (okp := fun _ => True) ?hr ?hp (fun _ hk => hk) trivial (Below.refl _ _) (Nat.le_refl _) (by simp) ?_; (case hd => rfl); (case hg => rfl); (case hr => first | (go_simp; done) | (go_simp; rfl)); (case hp => exact (Reps.one (show Kd.M Kd.string _ _ _ (⟨#[97]⟩ : ByteArray) [.string (⟨#[97]⟩ : ByteArray)] from rfl) (Reps.one (show Kd.M Kd.string _ _ _ (⟨#[98]⟩ : ByteArray) [.string (⟨#[98]⟩ : ByteArray)] from rfl) (Reps.none _ _)))); intro v117 w43 ho44 hb hg_ hnew_; clear hg_ hnew_; (first | rw [← Ny116.out] at ho44 | (simp only [Int.reduceToNat] at ho44; rw [← Ny116.out] at ho44)); have n0_ := Aside0.mk (Kd.R_elder' (by (with_reducible repeat (first | apply Kd.R_alloc | apply Kd.R_drewN | apply Kd.R_drew)); exact HO110.out) (Kd.R_base ho44) hb); have n1_ := Aside0.mk (Kd.R_elder' (by (with_reducible repeat (first | apply Kd.R_alloc | apply Kd.R_drewN | apply Kd.R_drew)); exact HO115.out) (Kd.R_base ho44) hb); have n2_ := Aside0.mk (Kd.R_lower (Kd.R_new' (Kd.R_new' ho44 (Kd.R_lt (by (with_reducible repeat (first | apply Kd.R_alloc | apply Kd.R_drewN | apply Kd.R_drew)); exact HO110.out))) (Kd.R_lt (by (with_reducible repeat (first | apply Kd.R_alloc | apply Kd.R_drewN | apply Kd.R_drew)); exact HO115.out))) (below_size (by repeat (first | (with_reducible first | exact HB.out | apply below_alloc | apply pw_below_drewN | apply below_drew1) | exact HB.out)))); have n3_ := Aside0.mk (below_step (by repeat (first | (with_reducible first | exact HB.out | apply below_alloc | apply pw_below_drewN | apply below_drew1) | exact HB.out)) hb); clear HO110; clear HO115; clear HB; have HO110 := n0_; have HO115 := n1_; have HO118 := n2_; have HB := n3_; clear n0_ n1_ n2_ n3_; clear hb ho44; obtain ⟨Ao45, co45, eo45⟩ := Kd.R_slice HO118.out; subst eo45) | ((with_reducible refine gate_callee (f := 16) rfl ?_); refine goesL_ (some 22) rfl rfl Tryd.func16 (by kernel_rfl) rfl #[.slice Ao45 y116.length co45] rfl (by (try simp only [List.map_toArray, List.map_cons, List.map_nil]); first | done | rfl | (simp only [List.length_drop, List.length_take]; rfl)) ?_; (with_reducible refine (path_Join.calls _ _ y116 t119 t120 t121 _ ?side1 ?side2 (lay_below HLAY_.out (by repeat (first | (with_reducible first | exact HB.out | apply below_alloc | apply pw_below_drewN | apply below_drew1) | exact HB.out))) A3.out).mono ?_); (case side1 => repeat (first | exact (Kd.R_reads' HO118.out).2.2 | (with_reducible refine Kd.C_alloc ?_ _) | (with_reducible refine Kd.C_drewN ?_ _) | (with_reducible refine Kd.C_drew ?_))); (case side2 => exact (Kd.R_reads' HO118.out).2.1); rintro e w46 ⟨rfl, hb⟩; refine ⟨_, rfl, ?_⟩; have n0_ := Aside0.mk (Kd.R_below (by (with_reducible repeat (first | apply Kd.R_alloc | apply Kd.R_drewN | apply Kd.R_drew)); exact HO110.out) hb); have n1_ := Aside0.mk (Kd.R_below (by (with_reducible repeat (first | apply Kd.R_alloc | apply Kd.R_drewN | apply Kd.R_drew)); exact HO115.out) hb); have n2_ := Aside0.mk (Kd.R_below (by (with_reducible repeat (first | apply Kd.R_alloc | apply Kd.R_drewN | apply Kd.R_drew)); exact HO118.out) hb); have n3_ := Aside0.mk (below_step (by repeat (first | (with_reducible first | exact HB.out | apply below_alloc | apply pw_below_drewN | apply below_drew1) | exact HB.out)) hb); clear HO110; clear HO115; clear HO118; clear HB; have HO110 := n0_; have HO115 := n1_; have HO118 := n2_; have HB := n3_; clear n0_ n1_ n2_ n3_; (try clear hb); (try clear hb2); (try clear hk); (try clear hi)) | ((with_reducible refine gate_dst (N := 27) rfl ?_); refine Kd.R_lit Kd.string _ 9 ?hg (N := 27) ?hd (xs := ([(⟨#[97]⟩ : ByteArray), (⟨#[98]⟩ : ByteArray)] : List ByteArray)) (inner := [.string (⟨#[97]⟩ : ByteArray), .string (⟨#[98]⟩ : ByteArray)]) (ok := fun _ => True) (okp := fun _ => True) ?hr ?hp (fun _ hk => hk) trivial (Below.refl _ _) (Nat.le_refl _) (by simp) ?_; (case hd => rfl); (case hg => rfl); (case hr => first | (go_simp; done) | (go_simp; rfl)); (case hp => exact (Reps.one (show Kd.M Kd.string _ _ _ (⟨#[97]⟩ : ByteArray) [.string (⟨#[97]⟩ : ByteArray)] from rfl) (Reps.one (show Kd.M Kd.string _ _ _ (⟨#[98]⟩ : ByteArray) [.string (⟨#[98]⟩ : ByteArray)] from rfl) (Reps.none _ _)))); intro v123 w47 ho48 hb hg_ hnew_; clear hg_ hnew_; (first | rw [← Ny122.out] at ho48 | (simp only [Int.reduceToNat] at ho48; rw [← Ny122.out] at ho48)); have n0_ := Aside0.mk (Kd.R_elder' (by (with_reducible repeat (first | apply Kd.R_alloc | apply Kd.R_drewN | apply Kd.R_drew)); exact HO110.out) (Kd.R_base ho48) hb); have n1_ := Aside0.mk (Kd.R_elder' (by (with_reducible repeat (first | apply Kd.R_alloc | apply Kd.R_drewN | apply Kd.R_drew)); exact HO115.out) (Kd.R_base ho48) hb); have n2_ := Aside0.mk (Kd.R_elder' (by (with_reducible repeat (first | apply Kd.R_alloc | apply Kd.R_drewN | apply Kd.R_drew)); exact HO118.out) (Kd.R_base ho48) hb); have n3_ := Aside0.mk (Kd.R_lower (Kd.R_new' (Kd.R_new' (Kd.R_new' ho48 (Kd.R_lt (by (with_reducible repeat (first | apply Kd.R_alloc | apply Kd.R_drewN | apply Kd.R_drew)); exact HO110.out))) (Kd.R_lt (by (with_reducible repeat (first | apply Kd.R_alloc | apply Kd.R_drewN | apply Kd.R_drew)); exact HO115.out))) (Kd.R_lt (by (with_reducible repeat (first | apply Kd.R_alloc | apply Kd.R_drewN | apply Kd.R_drew)); exact HO118.out))) (below_size (by repeat (first | (with_reducible first | exact HB.out | apply below_alloc | apply pw_below_drewN | apply below_drew1) | exact HB.out)))); have n4_ := Aside0.mk (below_step (by repeat (first | (with_reducible first | exact HB.out | apply below_alloc | apply pw_below_drewN | apply below_drew1) | exact HB.out)) hb); clear HO110; clear HO115; clear HO118; clear HB; have HO110 := n0_; have HO115 := n1_; have HO118 := n2_; have HO124 := n3_; have HB := n4_; clear n0_ n1_ n2_ n3_ n4_; clear hb ho48; obtain ⟨Ao49, co49, eo49⟩ := Kd.R_slice HO110.out; subst eo49; obtain ⟨Ao50, co50, eo50⟩ := Kd.R_slice HO124.out; subst eo50) | ((with_reducible refine gate_callee (f := 15) rfl ?_); refine goesL_ (some 28) rfl rfl Tryd.func15 (by kernel_rfl) rfl #[.slice Ao49 t106.length co49, .slice Ao50 y122.length co50] rfl (by (try simp only [List.map_toArray, List.map_cons, List.map_nil]); first | done | rfl | (simp only [List.length_drop, List.length_take]; rfl)) ?_; (with_reducible refine (slabvaultlaw17_texts.calls k _ _ t106 _ _ y122 true _ ?side1 ?side2 ?side3 ?side4 A4.out).mono ?_); (case side1 => repeat (first | exact (Kd.R_reads' HO110.out).2.2 | (with_reducible refine Kd.C_alloc ?_ _) | (with_reducible refine Kd.C_drewN ?_ _) | (with_reducible refine Kd.C_drew ?_))); (case side2 => exact (Kd.R_reads' HO110.out).2.1); (case side3 => repeat (first | exact (Kd.R_reads' HO124.out).2.2 | (with_reducible refine Kd.C_alloc ?_ _) | (with_reducible refine Kd.C_drewN ?_ _) | (with_reducible refine Kd.C_drew ?_))); (case side4 => exact (Kd.R_reads' HO124.out).2.1); rintro e w' ⟨rfl, ⟨nd, rfl⟩⟩; refine ⟨_, rfl, ?_⟩))
          go_ret
          exact ⟨by first | rfl | (simp [errW_none, errW_some] <;> rfl) | (simp [*, errW_none, errW_some] <;> rfl), by repeat (first | (with_reducible first | exact HB.out | apply below_alloc | apply pw_below_drewN | apply below_drew1) | exact HB.out)⟩
      · rw [if_neg c7] at H
        have c7b0 : (t112 == 1) = false := beq_eq_false_iff_ne.mpr c7
        have c7b1 : (t112 != 1) = true := bne_iff_ne.mpr c7
        obtain rfl := Option.some.inj H
        go_enter Tryd.func12, Tryd.ntmps12
        go_wp2_with (first | ((with_reducible refine gate_callee (f := 13) rfl ?_); refine goesL_ (some 11) rfl rfl Tryd.func13 (by kernel_rfl) rfl #[.string (⟨#[47, 97, 47, 47, 46, 47, 98, 47]⟩ : ByteArray)] rfl (by (try simp only [List.map_toArray, List.map_cons, List.map_nil]); first | done | rfl | (simp only [List.length_drop, List.length_take]; rfl)) ?_; (with_reducible refine (path_Parse.calls (⟨#[47, 97, 47, 47, 46, 47, 98, 47]⟩ : ByteArray) t106 t107 t108 _ (lay_below HLAY_.out (by repeat (first | (with_reducible first | exact HB.out | apply below_alloc | apply pw_below_drewN | apply below_drew1) | exact HB.out))) A1.out).mono ?_); rintro e w51 ⟨v109, rfl, ho0, hb⟩; refine ⟨_, rfl, ?_⟩; have n0_ := Aside0.mk (Kd.R_lower ho0 (below_size (by repeat (first | (with_reducible first | exact HB.out | apply below_alloc | apply pw_below_drewN | apply below_drew1) | exact HB.out)))); have n1_ := Aside0.mk (below_step (by repeat (first | (with_reducible first | exact HB.out | apply below_alloc | apply pw_below_drewN | apply below_drew1) | exact HB.out)) hb); clear HB; have HO110 := n0_; have HB := n1_; clear n0_ n1_; (try clear hb); (try clear hb2); (try clear hk); (try clear hi); (try clear ho0)) | ((with_reducible refine gate_callee (f := 13) rfl ?_); refine goesL_ (some 16) rfl rfl Tryd.func13 (by kernel_rfl) rfl #[.string (⟨#[47, 97, 47, 46, 46, 47, 98]⟩ : ByteArray)] rfl (by (try simp only [List.map_toArray, List.map_cons, List.map_nil]); first | done | rfl | (simp only [List.length_drop, List.length_take]; rfl)) ?_; (with_reducible refine (path_Parse.calls (⟨#[47, 97, 47, 46, 46, 47, 98]⟩ : ByteArray) t111 t112 t113 _ (lay_below HLAY_.out (by repeat (first | (with_reducible first | exact HB.out | apply below_alloc | apply pw_below_drewN | apply below_drew1) | exact HB.out))) A2.out).mono ?_); rintro e w52 ⟨v114, rfl, ho0, hb⟩; refine ⟨_, rfl, ?_⟩; have n0_ := Aside0.mk (Kd.R_elder' (by (with_reducible repeat (first | apply Kd.R_alloc | apply Kd.R_drewN | apply Kd.R_drew)); exact HO110.out) (Kd.R_base ho0) hb); have n1_ := Aside0.mk (Kd.R_lower (Kd.R_new' ho0 (Kd.R_lt (by (with_reducible repeat (first | apply Kd.R_alloc | apply Kd.R_drewN | apply Kd.R_drew)); exact HO110.out))) (below_size (by repeat (first | (with_reducible first | exact HB.out | apply below_alloc | apply pw_below_drewN | apply below_drew1) | exact HB.out)))); have n2_ := Aside0.mk (below_step (by repeat (first | (with_reducible first | exact HB.out | apply below_alloc | apply pw_below_drewN | apply below_drew1) | exact HB.out)) hb); clear HO110; clear HB; have HO110 := n0_; have HO115 := n1_; have HB := n2_; clear n0_ n1_ n2_; (try clear hb); (try clear hb2); (try clear hk); (try clear hi); (try clear ho0)) | ((with_reducible refine gate_dst (N := 21) rfl ?_); refine Kd.R_lit Kd.string _ 9 ?hg (N := 21) ?hd (xs := ([(⟨#[97]⟩ : ByteArray), (⟨#[98]⟩ : ByteArray)] : List ByteArray)) (inner := [.string (⟨#[97]⟩ : ByteArray), .string (⟨#[98]⟩ : ByteArray)]) (ok := fun _ => True) (okp := fun _ => True) ?hr ?hp (fun _ hk => hk) trivial (Below.refl _ _) (Nat.le_refl _) (by simp) ?_; (case hd => rfl); (case hg => rfl); (case hr => first | (go_simp; done) | (go_simp; rfl)); (case hp => exact (Reps.one (show Kd.M Kd.string _ _ _ (⟨#[97]⟩ : ByteArray) [.string (⟨#[97]⟩ : ByteArray)] from rfl) (Reps.one (show Kd.M Kd.string _ _ _ (⟨#[98]⟩ : ByteArray) [.string (⟨#[98]⟩ : ByteArray)] from rfl) (Reps.none _ _)))); intro v117 w53 ho54 hb hg_ hnew_; clear hg_ hnew_; (first | rw [← Ny116.out] at ho54 | (simp only [Int.reduceToNat] at ho54; rw [← Ny116.out] at ho54)); have n0_ := Aside0.mk (Kd.R_elder' (by (with_reducible repeat (first | apply Kd.R_alloc | apply Kd.R_drewN | apply Kd.R_drew)); exact HO110.out) (Kd.R_base ho54) hb); have n1_ := Aside0.mk (Kd.R_elder' (by (with_reducible repeat (first | apply Kd.R_alloc | apply Kd.R_drewN | apply Kd.R_drew)); exact HO115.out) (Kd.R_base ho54) hb); have n2_ := Aside0.mk (Kd.R_lower (Kd.R_new' (Kd.R_new' ho54 (Kd.R_lt (by (with_reducible repeat (first | apply Kd.R_alloc | apply Kd.R_drewN | apply Kd.R_drew)); exact HO110.out))) (Kd.R_lt (by (with_reducible repeat (first | apply Kd.R_alloc | apply Kd.R_drewN | apply Kd.R_drew)); exact HO115.out))) (below_size (by repeat (first | (with_reducible first | exact HB.out | apply below_alloc | apply pw_below_drewN | apply below_drew1) | exact HB.out)))); have n3_ := Aside0.mk (below_step (by repeat (first | (with_reducible first | exact HB.out | apply below_alloc | apply pw_below_drewN | apply below_drew1) | exact HB.out)) hb); clear HO110; clear HO115; clear HB; have HO110 := n0_; have HO115 := n1_; have HO118 := n2_; have HB := n3_; clear n0_ n1_ n2_ n3_; clear hb ho54; obtain ⟨Ao55, co55, eo55⟩ := Kd.R_slice HO118.out; subst eo55) | ((with_reducible refine gate_callee (f := 16) rfl ?_); refine goesL_ (some 22) rfl rfl Tryd.func16 (by kernel_rfl) rfl #[.slice Ao55 y116.length co55] rfl (by (try simp only [List.map_toArray, List.map_cons, List.map_nil]); first | done | rfl | (simp only [List.length_drop, List.length_take]; rfl)) ?_; (with_reducible refine (path_Join.calls _ _ y116 t119 t120 t121 _ ?side1 ?side2 (lay_below HLAY_.out (by repeat (first | (with_reducible first | exact HB.out | apply below_alloc | apply pw_below_drewN | apply below_drew1) | exact HB.out))) A3.out).mono ?_); (case side1 => repeat (first | exact (Kd.R_reads' HO118.out).2.2 | (with_reducible refine Kd.C_alloc ?_ _) | (with_reducible refine Kd.C_drewN ?_ _) | (with_reducible refine Kd.C_drew ?_))); (case side2 => exact (Kd.R_reads' HO118.out).2.1); rintro e w56 ⟨rfl, hb⟩; refine ⟨_, rfl, ?_⟩; have n0_ := Aside0.mk (Kd.R_below (by (with_reducible repeat (first | apply Kd.R_alloc | apply Kd.R_drewN | apply Kd.R_drew)); exact HO110.out) hb); have n1_ := Aside0.mk (Kd.R_below (by (with_reducible repeat (first | apply Kd.R_alloc | apply Kd.R_drewN | apply Kd.R_drew)); exact HO115.out) hb); have n2_ := Aside0.mk (Kd.R_below (by (with_reducible repeat (first | apply Kd.R_alloc | apply Kd.R_drewN | apply Kd.R_drew)); exact HO118.out) hb); have n3_ := Aside0.mk (below_step (by repeat (first | (with_reducible first | exact HB.out | apply below_alloc | apply pw_below_drewN | apply below_drew1) | exact HB.out)) hb); clear HO110; clear HO115; clear HO118; clear HB; have HO110 := n0_; have HO115 := n1_; have HO118 := n2_; have HB := n3_; clear n0_ n1_ n2_ n3_; (try clear hb); (try clear hb2); (try clear hk); (try clear hi)) | ((with_reducible refine gate_dst (N := 27) rfl ?_); refine Kd.R_lit Kd.string _ 9 ?hg (N := 27) ?hd (xs := ([(⟨#[97]⟩ : ByteArray), (⟨#[98]⟩ : ByteArray)] : List ByteArray)) (inner := [.string (⟨#[97]⟩ : ByteArray), .string (⟨#[98]⟩ : ByteArray)]) (ok := fun _ => True) (okp := fun _ => True) ?hr ?hp (fun _ hk => hk) trivial (Below.refl _ _) (Nat.le_refl _) (by simp) ?_; (case hd => rfl); (case hg => rfl); (case hr => first | (go_simp; done) | (go_simp; rfl)); (case hp => exact (Reps.one (show Kd.M Kd.string _ _ _ (⟨#[97]⟩ : ByteArray) [.string (⟨#[97]⟩ : ByteArray)] from rfl) (Reps.one (show Kd.M Kd.string _ _ _ (⟨#[98]⟩ : ByteArray) [.string (⟨#[98]⟩ : ByteArray)] from rfl) (Reps.none _ _)))); intro v123 w57 ho58 hb hg_ hnew_; clear hg_ hnew_; (first | rw [← Ny122.out] at ho58 | (simp only [Int.reduceToNat] at ho58; rw [← Ny122.out] at ho58)); have n0_ := Aside0.mk (Kd.R_elder' (by (with_reducible repeat (first | apply Kd.R_alloc | apply Kd.R_drewN | apply Kd.R_drew)); exact HO110.out) (Kd.R_base ho58) hb); have n1_ := Aside0.mk (Kd.R_elder' (by (with_reducible repeat (first | apply Kd.R_alloc | apply Kd.R_drewN | apply Kd.R_drew)); exact HO115.out) (Kd.R_base ho58) hb); have n2_ := Aside0.mk (Kd.R_elder' (by (with_reducible repeat (first | apply Kd.R_alloc | apply Kd.R_drewN | apply Kd.R_drew)); exact HO118.out) (Kd.R_base ho58) hb); have n3_ := Aside0.mk (Kd.R_lower (Kd.R_new' (Kd.R_new' (Kd.R_new' ho58 (Kd.R_lt (by (with_reducible repeat (first | apply Kd.R_alloc | apply Kd.R_drewN | apply Kd.R_drew)); exact HO110.out))) (Kd.R_lt (by (with_reducible repeat (first | apply Kd.R_alloc | apply Kd.R_drewN | apply Kd.R_drew)); exact HO115.out))) (Kd.R_lt (by (with_reducible repeat (first | apply Kd.R_alloc | apply Kd.R_drewN | apply Kd.R_drew)); exact HO118.out))) (below_size (by repeat (first | (with_reducible first | exact HB.out | apply below_alloc | apply pw_below_drewN | apply below_drew1) | exact HB.out)))); have n4_ := Aside0.mk (below_step (by repeat (first | (with_reducible first | exact HB.out | apply below_alloc | apply pw_below_drewN | apply below_drew1) | exact HB.out)) hb); clear HO110; clear HO115; clear HO118; clear HB; have HO110 := n0_; have HO115 := n1_; have HO118 := n2_; have HO124 := n3_; have HB := n4_; clear n0_ n1_ n2_ n3_ n4_; clear hb ho58; obtain ⟨Ao59, co59, eo59⟩ := Kd.R_slice HO110.out; subst eo59; obtain ⟨Ao60, co60, eo60⟩ := Kd.R_slice HO124.out; subst eo60) | ((with_reducible refine gate_callee (f := 15) rfl ?_); refine goesL_ (some 28) rfl rfl Tryd.func15 (by kernel_rfl) rfl #[.slice Ao59 t106.length co59, .slice Ao60 y122.length co60] rfl (by (try simp only [List.map_toArray, List.map_cons, List.map_nil]); first | done | rfl | (simp only [List.length_drop, List.length_take]; rfl)) ?_; (with_reducible refine (slabvaultlaw17_texts.calls k _ _ t106 _ _ y122 true _ ?side1 ?side2 ?side3 ?side4 A4.out).mono ?_); (case side1 => repeat (first | exact (Kd.R_reads' HO110.out).2.2 | (with_reducible refine Kd.C_alloc ?_ _) | (with_reducible refine Kd.C_drewN ?_ _) | (with_reducible refine Kd.C_drew ?_))); (case side2 => exact (Kd.R_reads' HO110.out).2.1); (case side3 => repeat (first | exact (Kd.R_reads' HO124.out).2.2 | (with_reducible refine Kd.C_alloc ?_ _) | (with_reducible refine Kd.C_drewN ?_ _) | (with_reducible refine Kd.C_drew ?_))); (case side4 => exact (Kd.R_reads' HO124.out).2.1); rintro e w' ⟨rfl, ⟨nd, rfl⟩⟩; refine ⟨_, rfl, ?_⟩))
        go_ret
        exact ⟨by first | rfl | (simp [errW_none, errW_some] <;> rfl) | (simp [*, errW_none, errW_some] <;> rfl), by repeat (first | (with_reducible first | exact HB.out | apply below_alloc | apply pw_below_drewN | apply below_drew1) | exact HB.out)⟩
    · rw [if_neg c6] at H
      have c6b0 : (t108 == 0) = false := beq_eq_false_iff_ne.mpr c6
      have c6b1 : (t108 != 0) = true := bne_iff_ne.mpr c6
      obtain rfl := Option.some.inj H
      go_enter Tryd.func12, Tryd.ntmps12
      go_wp2_with (first | ((with_reducible refine gate_callee (f := 13) rfl ?_); refine goesL_ (some 11) rfl rfl Tryd.func13 (by kernel_rfl) rfl #[.string (⟨#[47, 97, 47, 47, 46, 47, 98, 47]⟩ : ByteArray)] rfl (by (try simp only [List.map_toArray, List.map_cons, List.map_nil]); first | done | rfl | (simp only [List.length_drop, List.length_take]; rfl)) ?_; (with_reducible refine (path_Parse.calls (⟨#[47, 97, 47, 47, 46, 47, 98, 47]⟩ : ByteArray) t106 t107 t108 _ (lay_below HLAY_.out (by repeat (first | (with_reducible first | exact HB.out | apply below_alloc | apply pw_below_drewN | apply below_drew1) | exact HB.out))) A1.out).mono ?_); rintro e w61 ⟨v109, rfl, ho0, hb⟩; refine ⟨_, rfl, ?_⟩; have n0_ := Aside0.mk (Kd.R_lower ho0 (below_size (by repeat (first | (with_reducible first | exact HB.out | apply below_alloc | apply pw_below_drewN | apply below_drew1) | exact HB.out)))); have n1_ := Aside0.mk (below_step (by repeat (first | (with_reducible first | exact HB.out | apply below_alloc | apply pw_below_drewN | apply below_drew1) | exact HB.out)) hb); clear HB; have HO110 := n0_; have HB := n1_; clear n0_ n1_; (try clear hb); (try clear hb2); (try clear hk); (try clear hi); (try clear ho0)) | ((with_reducible refine gate_callee (f := 13) rfl ?_); refine goesL_ (some 16) rfl rfl Tryd.func13 (by kernel_rfl) rfl #[.string (⟨#[47, 97, 47, 46, 46, 47, 98]⟩ : ByteArray)] rfl (by (try simp only [List.map_toArray, List.map_cons, List.map_nil]); first | done | rfl | (simp only [List.length_drop, List.length_take]; rfl)) ?_; (with_reducible refine (path_Parse.calls (⟨#[47, 97, 47, 46, 46, 47, 98]⟩ : ByteArray) t111 t112 t113 _ (lay_below HLAY_.out (by repeat (first | (with_reducible first | exact HB.out | apply below_alloc | apply pw_below_drewN | apply below_drew1) | exact HB.out))) A2.out).mono ?_); rintro e w62 ⟨v114, rfl, ho0, hb⟩; refine ⟨_, rfl, ?_⟩; have n0_ := Aside0.mk (Kd.R_elder' (by (with_reducible repeat (first | apply Kd.R_alloc | apply Kd.R_drewN | apply Kd.R_drew)); exact HO110.out) (Kd.R_base ho0) hb); have n1_ := Aside0.mk (Kd.R_lower (Kd.R_new' ho0 (Kd.R_lt (by (with_reducible repeat (first | apply Kd.R_alloc | apply Kd.R_drewN | apply Kd.R_drew)); exact HO110.out))) (below_size (by repeat (first | (with_reducible first | exact HB.out | apply below_alloc | apply pw_below_drewN | apply below_drew1) | exact HB.out)))); have n2_ := Aside0.mk (below_step (by repeat (first | (with_reducible first | exact HB.out | apply below_alloc | apply pw_below_drewN | apply below_drew1) | exact HB.out)) hb); clear HO110; clear HB; have HO110 := n0_; have HO115 := n1_; have HB := n2_; clear n0_ n1_ n2_; (try clear hb); (try clear hb2); (try clear hk); (try clear hi); (try clear ho0)) | ((with_reducible refine gate_dst (N := 21) rfl ?_); refine Kd.R_lit Kd.string _ 9 ?hg (N := 21) ?hd (xs := ([(⟨#[97]⟩ : ByteArray), (⟨#[98]⟩ : ByteArray)] : List ByteArray)) (inner := [.string (⟨#[97]⟩ : ByteArray), .string (⟨#[98]⟩ : ByteArray)]) (ok := fun _ => True) (okp := fun _ => True) ?hr ?hp (fun _ hk => hk) trivial (Below.refl _ _) (Nat.le_refl _) (by simp) ?_; (case hd => rfl); (case hg => rfl); (case hr => first | (go_simp; done) | (go_simp; rfl)); (case hp => exact (Reps.one (show Kd.M Kd.string _ _ _ (⟨#[97]⟩ : ByteArray) [.string (⟨#[97]⟩ : ByteArray)] from rfl) (Reps.one (show Kd.M Kd.string _ _ _ (⟨#[98]⟩ : ByteArray) [.string (⟨#[98]⟩ : ByteArray)] from rfl) (Reps.none _ _)))); intro v117 w63 ho64 hb hg_ hnew_; clear hg_ hnew_; (first | rw [← Ny116.out] at ho64 | (simp only [Int.reduceToNat] at ho64; rw [← Ny116.out] at ho64)); have n0_ := Aside0.mk (Kd.R_elder' (by (with_reducible repeat (first | apply Kd.R_alloc | apply Kd.R_drewN | apply Kd.R_drew)); exact HO110.out) (Kd.R_base ho64) hb); have n1_ := Aside0.mk (Kd.R_elder' (by (with_reducible repeat (first | apply Kd.R_alloc | apply Kd.R_drewN | apply Kd.R_drew)); exact HO115.out) (Kd.R_base ho64) hb); have n2_ := Aside0.mk (Kd.R_lower (Kd.R_new' (Kd.R_new' ho64 (Kd.R_lt (by (with_reducible repeat (first | apply Kd.R_alloc | apply Kd.R_drewN | apply Kd.R_drew)); exact HO110.out))) (Kd.R_lt (by (with_reducible repeat (first | apply Kd.R_alloc | apply Kd.R_drewN | apply Kd.R_drew)); exact HO115.out))) (below_size (by repeat (first | (with_reducible first | exact HB.out | apply below_alloc | apply pw_below_drewN | apply below_drew1) | exact HB.out)))); have n3_ := Aside0.mk (below_step (by repeat (first | (with_reducible first | exact HB.out | apply below_alloc | apply pw_below_drewN | apply below_drew1) | exact HB.out)) hb); clear HO110; clear HO115; clear HB; have HO110 := n0_; have HO115 := n1_; have HO118 := n2_; have HB := n3_; clear n0_ n1_ n2_ n3_; clear hb ho64; obtain ⟨Ao65, co65, eo65⟩ := Kd.R_slice HO118.out; subst eo65) | ((with_reducible refine gate_callee (f := 16) rfl ?_); refine goesL_ (some 22) rfl rfl Tryd.func16 (by kernel_rfl) rfl #[.slice Ao65 y116.length co65] rfl (by (try simp only [List.map_toArray, List.map_cons, List.map_nil]); first | done | rfl | (simp only [List.length_drop, List.length_take]; rfl)) ?_; (with_reducible refine (path_Join.calls _ _ y116 t119 t120 t121 _ ?side1 ?side2 (lay_below HLAY_.out (by repeat (first | (with_reducible first | exact HB.out | apply below_alloc | apply pw_below_drewN | apply below_drew1) | exact HB.out))) A3.out).mono ?_); (case side1 => repeat (first | exact (Kd.R_reads' HO118.out).2.2 | (with_reducible refine Kd.C_alloc ?_ _) | (with_reducible refine Kd.C_drewN ?_ _) | (with_reducible refine Kd.C_drew ?_))); (case side2 => exact (Kd.R_reads' HO118.out).2.1); rintro e w66 ⟨rfl, hb⟩; refine ⟨_, rfl, ?_⟩; have n0_ := Aside0.mk (Kd.R_below (by (with_reducible repeat (first | apply Kd.R_alloc | apply Kd.R_drewN | apply Kd.R_drew)); exact HO110.out) hb); have n1_ := Aside0.mk (Kd.R_below (by (with_reducible repeat (first | apply Kd.R_alloc | apply Kd.R_drewN | apply Kd.R_drew)); exact HO115.out) hb); have n2_ := Aside0.mk (Kd.R_below (by (with_reducible repeat (first | apply Kd.R_alloc | apply Kd.R_drewN | apply Kd.R_drew)); exact HO118.out) hb); have n3_ := Aside0.mk (below_step (by repeat (first | (with_reducible first | exact HB.out | apply below_alloc | apply pw_below_drewN | apply below_drew1) | exact HB.out)) hb); clear HO110; clear HO115; clear HO118; clear HB; have HO110 := n0_; have HO115 := n1_; have HO118 := n2_; have HB := n3_; clear n0_ n1_ n2_ n3_; (try clear hb); (try clear hb2); (try clear hk); (try clear hi)) | ((with_reducible refine gate_dst (N := 27) rfl ?_); refine Kd.R_lit Kd.string _ 9 ?hg (N := 27) ?hd (xs := ([(⟨#[97]⟩ : ByteArray), (⟨#[98]⟩ : ByteArray)] : List ByteArray)) (inner := [.string (⟨#[97]⟩ : ByteArray), .string (⟨#[98]⟩ : ByteArray)]) (ok := fun _ => True) (okp := fun _ => True) ?hr ?hp (fun _ hk => hk) trivial (Below.refl _ _) (Nat.le_refl _) (by simp) ?_; (case hd => rfl); (case hg => rfl); (case hr => first | (go_simp; done) | (go_simp; rfl)); (case hp => exact (Reps.one (show Kd.M Kd.string _ _ _ (⟨#[97]⟩ : ByteArray) [.string (⟨#[97]⟩ : ByteArray)] from rfl) (Reps.one (show Kd.M Kd.string _ _ _ (⟨#[98]⟩ : ByteArray) [.string (⟨#[98]⟩ : ByteArray)] from rfl) (Reps.none _ _)))); intro v123 w67 ho68 hb hg_ hnew_; clear hg_ hnew_; (first | rw [← Ny122.out] at ho68 | (simp only [Int.reduceToNat] at ho68; rw [← Ny122.out] at ho68)); have n0_ := Aside0.mk (Kd.R_elder' (by (with_reducible repeat (first | apply Kd.R_alloc | apply Kd.R_drewN | apply Kd.R_drew)); exact HO110.out) (Kd.R_base ho68) hb); have n1_ := Aside0.mk (Kd.R_elder' (by (with_reducible repeat (first | apply Kd.R_alloc | apply Kd.R_drewN | apply Kd.R_drew)); exact HO115.out) (Kd.R_base ho68) hb); have n2_ := Aside0.mk (Kd.R_elder' (by (with_reducible repeat (first | apply Kd.R_alloc | apply Kd.R_drewN | apply Kd.R_drew)); exact HO118.out) (Kd.R_base ho68) hb); have n3_ := Aside0.mk (Kd.R_lower (Kd.R_new' (Kd.R_new' (Kd.R_new' ho68 (Kd.R_lt (by (with_reducible repeat (first | apply Kd.R_alloc | apply Kd.R_drewN | apply Kd.R_drew)); exact HO110.out))) (Kd.R_lt (by (with_reducible repeat (first | apply Kd.R_alloc | apply Kd.R_drewN | apply Kd.R_drew)); exact HO115.out))) (Kd.R_lt (by (with_reducible repeat (first | apply Kd.R_alloc | apply Kd.R_drewN | apply Kd.R_drew)); exact HO118.out))) (below_size (by repeat (first | (with_reducible first | exact HB.out | apply below_alloc | apply pw_below_drewN | apply below_drew1) | exact HB.out)))); have n4_ := Aside0.mk (below_step (by repeat (first | (with_reducible first | exact HB.out | apply below_alloc | apply pw_below_drewN | apply below_drew1) | exact HB.out)) hb); clear HO110; clear HO115; clear HO118; clear HB; have HO110 := n0_; have HO115 := n1_; have HO118 := n2_; have HO124 := n3_; have HB := n4_; clear n0_ n1_ n2_ n3_ n4_; clear hb ho68; obtain ⟨Ao69, co69, eo69⟩ := Kd.R_slice HO110.out; subst eo69; obtain ⟨Ao70, co70, eo70⟩ := Kd.R_slice HO124.out; subst eo70) | ((with_reducible refine gate_callee (f := 15) rfl ?_); refine goesL_ (some 28) rfl rfl Tryd.func15 (by kernel_rfl) rfl #[.slice Ao69 t106.length co69, .slice Ao70 y122.length co70] rfl (by (try simp only [List.map_toArray, List.map_cons, List.map_nil]); first | done | rfl | (simp only [List.length_drop, List.length_take]; rfl)) ?_; (with_reducible refine (slabvaultlaw17_texts.calls k _ _ t106 _ _ y122 true _ ?side1 ?side2 ?side3 ?side4 A4.out).mono ?_); (case side1 => repeat (first | exact (Kd.R_reads' HO110.out).2.2 | (with_reducible refine Kd.C_alloc ?_ _) | (with_reducible refine Kd.C_drewN ?_ _) | (with_reducible refine Kd.C_drew ?_))); (case side2 => exact (Kd.R_reads' HO110.out).2.1); (case side3 => repeat (first | exact (Kd.R_reads' HO124.out).2.2 | (with_reducible refine Kd.C_alloc ?_ _) | (with_reducible refine Kd.C_drewN ?_ _) | (with_reducible refine Kd.C_drew ?_))); (case side4 => exact (Kd.R_reads' HO124.out).2.1); rintro e w' ⟨rfl, ⟨nd, rfl⟩⟩; refine ⟨_, rfl, ?_⟩))
      go_ret
      exact ⟨by first | rfl | (simp [errW_none, errW_some] <;> rfl) | (simp [*, errW_none, errW_some] <;> rfl), by repeat (first | (with_reducible first | exact HB.out | apply below_alloc | apply pw_below_drewN | apply below_drew1) | exact HB.out)⟩
  · replace c5 := Bool.eq_false_iff.mpr c5
    subst c5
    have H1 : (some false) = some r := by rw [if_neg (show ¬ (false = true) by decide)] at H; exact H
    clear H
    have H := H1
    clear H1
    obtain rfl := Option.some.inj H
    go_enter Tryd.func12, Tryd.ntmps12
    go_wp2_with (first | ((with_reducible refine gate_callee (f := 13) rfl ?_); refine goesL_ (some 11) rfl rfl Tryd.func13 (by kernel_rfl) rfl #[.string (⟨#[47, 97, 47, 47, 46, 47, 98, 47]⟩ : ByteArray)] rfl (by (try simp only [List.map_toArray, List.map_cons, List.map_nil]); first | done | rfl | (simp only [List.length_drop, List.length_take]; rfl)) ?_; (with_reducible refine (path_Parse.calls (⟨#[47, 97, 47, 47, 46, 47, 98, 47]⟩ : ByteArray) t106 t107 t108 _ (lay_below HLAY_.out (by repeat (first | (with_reducible first | exact HB.out | apply below_alloc | apply pw_below_drewN | apply below_drew1) | exact HB.out))) A1.out).mono ?_); rintro e w71 ⟨v109, rfl, ho0, hb⟩; refine ⟨_, rfl, ?_⟩; have n0_ := Aside0.mk (Kd.R_lower ho0 (below_size (by repeat (first | (with_reducible first | exact HB.out | apply below_alloc | apply pw_below_drewN | apply below_drew1) | exact HB.out)))); have n1_ := Aside0.mk (below_step (by repeat (first | (with_reducible first | exact HB.out | apply below_alloc | apply pw_below_drewN | apply below_drew1) | exact HB.out)) hb); clear HB; have HO110 := n0_; have HB := n1_; clear n0_ n1_; (try clear hb); (try clear hb2); (try clear hk); (try clear hi); (try clear ho0)) | ((with_reducible refine gate_callee (f := 13) rfl ?_); refine goesL_ (some 16) rfl rfl Tryd.func13 (by kernel_rfl) rfl #[.string (⟨#[47, 97, 47, 46, 46, 47, 98]⟩ : ByteArray)] rfl (by (try simp only [List.map_toArray, List.map_cons, List.map_nil]); first | done | rfl | (simp only [List.length_drop, List.length_take]; rfl)) ?_; (with_reducible refine (path_Parse.calls (⟨#[47, 97, 47, 46, 46, 47, 98]⟩ : ByteArray) t111 t112 t113 _ (lay_below HLAY_.out (by repeat (first | (with_reducible first | exact HB.out | apply below_alloc | apply pw_below_drewN | apply below_drew1) | exact HB.out))) A2.out).mono ?_); rintro e w72 ⟨v114, rfl, ho0, hb⟩; refine ⟨_, rfl, ?_⟩; have n0_ := Aside0.mk (Kd.R_elder' (by (with_reducible repeat (first | apply Kd.R_alloc | apply Kd.R_drewN | apply Kd.R_drew)); exact HO110.out) (Kd.R_base ho0) hb); have n1_ := Aside0.mk (Kd.R_lower (Kd.R_new' ho0 (Kd.R_lt (by (with_reducible repeat (first | apply Kd.R_alloc | apply Kd.R_drewN | apply Kd.R_drew)); exact HO110.out))) (below_size (by repeat (first | (with_reducible first | exact HB.out | apply below_alloc | apply pw_below_drewN | apply below_drew1) | exact HB.out)))); have n2_ := Aside0.mk (below_step (by repeat (first | (with_reducible first | exact HB.out | apply below_alloc | apply pw_below_drewN | apply below_drew1) | exact HB.out)) hb); clear HO110; clear HB; have HO110 := n0_; have HO115 := n1_; have HB := n2_; clear n0_ n1_ n2_; (try clear hb); (try clear hb2); (try clear hk); (try clear hi); (try clear ho0)) | ((with_reducible refine gate_dst (N := 21) rfl ?_); refine Kd.R_lit Kd.string _ 9 ?hg (N := 21) ?hd (xs := ([(⟨#[97]⟩ : ByteArray), (⟨#[98]⟩ : ByteArray)] : List ByteArray)) (inner := [.string (⟨#[97]⟩ : ByteArray), .string (⟨#[98]⟩ : ByteArray)]) (ok := fun _ => True) (okp := fun _ => True) ?hr ?hp (fun _ hk => hk) trivial (Below.refl _ _) (Nat.le_refl _) (by simp) ?_; (case hd => rfl); (case hg => rfl); (case hr => first | (go_simp; done) | (go_simp; rfl)); (case hp => exact (Reps.one (show Kd.M Kd.string _ _ _ (⟨#[97]⟩ : ByteArray) [.string (⟨#[97]⟩ : ByteArray)] from rfl) (Reps.one (show Kd.M Kd.string _ _ _ (⟨#[98]⟩ : ByteArray) [.string (⟨#[98]⟩ : ByteArray)] from rfl) (Reps.none _ _)))); intro v117 w73 ho74 hb hg_ hnew_; clear hg_ hnew_; (first | rw [← Ny116.out] at ho74 | (simp only [Int.reduceToNat] at ho74; rw [← Ny116.out] at ho74)); have n0_ := Aside0.mk (Kd.R_elder' (by (with_reducible repeat (first | apply Kd.R_alloc | apply Kd.R_drewN | apply Kd.R_drew)); exact HO110.out) (Kd.R_base ho74) hb); have n1_ := Aside0.mk (Kd.R_elder' (by (with_reducible repeat (first | apply Kd.R_alloc | apply Kd.R_drewN | apply Kd.R_drew)); exact HO115.out) (Kd.R_base ho74) hb); have n2_ := Aside0.mk (Kd.R_lower (Kd.R_new' (Kd.R_new' ho74 (Kd.R_lt (by (with_reducible repeat (first | apply Kd.R_alloc | apply Kd.R_drewN | apply Kd.R_drew)); exact HO110.out))) (Kd.R_lt (by (with_reducible repeat (first | apply Kd.R_alloc | apply Kd.R_drewN | apply Kd.R_drew)); exact HO115.out))) (below_size (by repeat (first | (with_reducible first | exact HB.out | apply below_alloc | apply pw_below_drewN | apply below_drew1) | exact HB.out)))); have n3_ := Aside0.mk (below_step (by repeat (first | (with_reducible first | exact HB.out | apply below_alloc | apply pw_below_drewN | apply below_drew1) | exact HB.out)) hb); clear HO110; clear HO115; clear HB; have HO110 := n0_; have HO115 := n1_; have HO118 := n2_; have HB := n3_; clear n0_ n1_ n2_ n3_; clear hb ho74; obtain ⟨Ao75, co75, eo75⟩ := Kd.R_slice HO118.out; subst eo75) | ((with_reducible refine gate_callee (f := 16) rfl ?_); refine goesL_ (some 22) rfl rfl Tryd.func16 (by kernel_rfl) rfl #[.slice Ao75 y116.length co75] rfl (by (try simp only [List.map_toArray, List.map_cons, List.map_nil]); first | done | rfl | (simp only [List.length_drop, List.length_take]; rfl)) ?_; (with_reducible refine (path_Join.calls _ _ y116 t119 t120 t121 _ ?side1 ?side2 (lay_below HLAY_.out (by repeat (first | (with_reducible first | exact HB.out | apply below_alloc | apply pw_below_drewN | apply below_drew1) | exact HB.out))) A3.out).mono ?_); (case side1 => repeat (first | exact (Kd.R_reads' HO118.out).2.2 | (with_reducible refine Kd.C_alloc ?_ _) | (with_reducible refine Kd.C_drewN ?_ _) | (with_reducible refine Kd.C_drew ?_))); (case side2 => exact (Kd.R_reads' HO118.out).2.1); rintro e w76 ⟨rfl, hb⟩; refine ⟨_, rfl, ?_⟩; have n0_ := Aside0.mk (Kd.R_below (by (with_reducible repeat (first | apply Kd.R_alloc | apply Kd.R_drewN | apply Kd.R_drew)); exact HO110.out) hb); have n1_ := Aside0.mk (Kd.R_below (by (with_reducible repeat (first | apply Kd.R_alloc | apply Kd.R_drewN | apply Kd.R_drew)); exact HO115.out) hb); have n2_ := Aside0.mk (Kd.R_below (by (with_reducible repeat (first | apply Kd.R_alloc | apply Kd.R_drewN | apply Kd.R_drew)); exact HO118.out) hb); have n3_ := Aside0.mk (below_step (by repeat (first | (with_reducible first | exact HB.out | apply below_alloc | apply pw_below_drewN | apply below_drew1) | exact HB.out)) hb); clear HO110; clear HO115; clear HO118; clear HB; have HO110 := n0_; have HO115 := n1_; have HO118 := n2_; have HB := n3_; clear n0_ n1_ n2_ n3_; (try clear hb); (try clear hb2); (try clear hk); (try clear hi)) | ((with_reducible refine gate_dst (N := 27) rfl ?_); refine Kd.R_lit Kd.string _ 9 ?hg (N := 27) ?hd (xs := ([(⟨#[97]⟩ : ByteArray), (⟨#[98]⟩ : ByteArray)] : List ByteArray)) (inner := [.string (⟨#[97]⟩ : ByteArray), .string (⟨#[98]⟩ : ByteArray)]) (ok := fun _ => True) (okp := fun _ => True) ?hr ?hp (fun _ hk => hk) trivial (Below.refl _ _) (Nat.le_refl _) (by simp) ?_; (case hd => rfl); (case hg => rfl); (case hr => first | (go_simp; done) | (go_simp; rfl)); (case hp => exact (Reps.one (show Kd.M Kd.string _ _ _ (⟨#[97]⟩ : ByteArray) [.string (⟨#[97]⟩ : ByteArray)] from rfl) (Reps.one (show Kd.M Kd.string _ _ _ (⟨#[98]⟩ : ByteArray) [.string (⟨#[98]⟩ : ByteArray)] from rfl) (Reps.none _ _)))); intro v123 w77 ho78 hb hg_ hnew_; clear hg_ hnew_; (first | rw [← Ny122.out] at ho78 | (simp only [Int.reduceToNat] at ho78; rw [← Ny122.out] at ho78)); have n0_ := Aside0.mk (Kd.R_elder' (by (with_reducible repeat (first | apply Kd.R_alloc | apply Kd.R_drewN | apply Kd.R_drew)); exact HO110.out) (Kd.R_base ho78) hb); have n1_ := Aside0.mk (Kd.R_elder' (by (with_reducible repeat (first | apply Kd.R_alloc | apply Kd.R_drewN | apply Kd.R_drew)); exact HO115.out) (Kd.R_base ho78) hb); have n2_ := Aside0.mk (Kd.R_elder' (by (with_reducible repeat (first | apply Kd.R_alloc | apply Kd.R_drewN | apply Kd.R_drew)); exact HO118.out) (Kd.R_base ho78) hb); have n3_ := Aside0.mk (Kd.R_lower (Kd.R_new' (Kd.R_new' (Kd.R_new' ho78 (Kd.R_lt (by (with_reducible repeat (first | apply Kd.R_alloc | apply Kd.R_drewN | apply Kd.R_drew)); exact HO110.out))) (Kd.R_lt (by (with_reducible repeat (first | apply Kd.R_alloc | apply Kd.R_drewN | apply Kd.R_drew)); exact HO115.out))) (Kd.R_lt (by (with_reducible repeat (first | apply Kd.R_alloc | apply Kd.R_drewN | apply Kd.R_drew)); exact HO118.out))) (below_size (by repeat (first | (with_reducible first | exact HB.out | apply below_alloc | apply pw_below_drewN | apply below_drew1) | exact HB.out)))); have n4_ := Aside0.mk (below_step (by repeat (first | (with_reducible first | exact HB.out | apply below_alloc | apply pw_below_drewN | apply below_drew1) | exact HB.out)) hb); clear HO110; clear HO115; clear HO118; clear HB; have HO110 := n0_; have HO115 := n1_; have HO118 := n2_; have HO124 := n3_; have HB := n4_; clear n0_ n1_ n2_ n3_ n4_; clear hb ho78; obtain ⟨Ao79, co79, eo79⟩ := Kd.R_slice HO110.out; subst eo79; obtain ⟨Ao80, co80, eo80⟩ := Kd.R_slice HO124.out; subst eo80) | ((with_reducible refine gate_callee (f := 15) rfl ?_); refine goesL_ (some 28) rfl rfl Tryd.func15 (by kernel_rfl) rfl #[.slice Ao79 t106.length co79, .slice Ao80 y122.length co80] rfl (by (try simp only [List.map_toArray, List.map_cons, List.map_nil]); first | done | rfl | (simp only [List.length_drop, List.length_take]; rfl)) ?_; (with_reducible refine (slabvaultlaw17_texts.calls k _ _ t106 _ _ y122 false _ ?side1 ?side2 ?side3 ?side4 A4.out).mono ?_); (case side1 => repeat (first | exact (Kd.R_reads' HO110.out).2.2 | (with_reducible refine Kd.C_alloc ?_ _) | (with_reducible refine Kd.C_drewN ?_ _) | (with_reducible refine Kd.C_drew ?_))); (case side2 => exact (Kd.R_reads' HO110.out).2.1); (case side3 => repeat (first | exact (Kd.R_reads' HO124.out).2.2 | (with_reducible refine Kd.C_alloc ?_ _) | (with_reducible refine Kd.C_drewN ?_ _) | (with_reducible refine Kd.C_drew ?_))); (case side4 => exact (Kd.R_reads' HO124.out).2.1); rintro e w' ⟨rfl, ⟨nd, rfl⟩⟩; refine ⟨_, rfl, ?_⟩))
    go_ret
    exact ⟨by first | rfl | (simp [errW_none, errW_some] <;> rfl) | (simp [*, errW_none, errW_some] <;> rfl), by repeat (first | (with_reducible first | exact HB.out | apply below_alloc | apply pw_below_drewN | apply below_drew1) | exact HB.out)⟩
end Go.Proofs.YtbmginkdlcpnpaaDoor.Wk
end
section
namespace Go.Proofs.YtbmginkdlcpnpaaDoor.Wk
open Go.RowKit Go.Proofs.YtbmginkdlcpnpaaDoorW.PrintWords Go.Proofs.YtbmginkdlcpnpaaDoorW.PrintLast Go.Proofs.YtbmginkdlcpnpaaDoorW.PrintMore
attribute [local go_sem] max2_int min2_int max_two min_two max_three min_three max_four min_four
set_option linter.unusedVariables false
set_option linter.unusedSimpArgs false
mutual
def slabvaultref09_Name.j0 : Nat → ByteArray → Bool → Option (Bool)
  | 0, _, _ => none
  | k + 1, x0, x19 => if x19 = true then (some false) else (slabvaultref09_Name.l0 k x0 0)
def slabvaultref09_Name.l0 : Nat → ByteArray → Int → Option (Bool)
  | 0, _, _ => none
  | k + 1, x0, x3 => if x3 < (x0.size : Int) then (if 0 ≤ x3 then (if (bt x0 x3) = 0 then (some false) else (if (bt x0 x3) = 47 then (some false) else (slabvaultref09_Name.l0 k x0 (wrap64 (x3 + 1))))) else (none)) else (some true)
end
def slabvaultref09_Name.f (k : Nat) (a0 : ByteArray) : Option (Bool) := if (a0.size : Int) < 1 then (slabvaultref09_Name.j0 k a0 true) else (if (a0.size : Int) > 64 then (slabvaultref09_Name.j0 k a0 true) else (if a0.toList = ([46] : List UInt8) then (slabvaultref09_Name.j0 k a0 true) else (slabvaultref09_Name.j0 k a0 (a0.toList == ([46, 46] : List UInt8)))))
end Go.Proofs.YtbmginkdlcpnpaaDoor.Wk
end
section
namespace Go.Proofs.YtbmginkdlcpnpaaDoor.Wk
open Go.RowKit Go.Proofs.YtbmginkdlcpnpaaDoorW.PrintWords Go.Proofs.YtbmginkdlcpnpaaDoorW.PrintLast Go.Proofs.YtbmginkdlcpnpaaDoorW.PrintMore
attribute [local go_sem] max2_int min2_int max_two min_two max_three min_three max_four min_four
set_option linter.unusedVariables false
set_option linter.unusedSimpArgs false
def slabvaultref17_parts.l0 : Nat → ByteArray → List ByteArray → Int → Int → Option (List ByteArray)
  | 0, _, _, _, _ => none
  | k + 1, x0, x3, x4, x5 => if x5 ≤ (x0.size : Int) then (if x5 = (x0.size : Int) then (if 0 ≤ x4 then (if x4 ≤ x5 then (if x3.length < 8796093022208 then (slabvaultref17_parts.l0 k x0 (x3 ++ [x0.extract (x4 : Int).toNat (x5 : Int).toNat]) (wrap64 (x5 + 1)) (wrap64 (x5 + 1))) else (none)) else (none)) else (none)) else (if 0 ≤ x5 then (if x5 < (x0.size : Int) then (if (bt x0 x5) = 47 then (if 0 ≤ x4 then (if x4 ≤ x5 then (if x3.length < 8796093022208 then (slabvaultref17_parts.l0 k x0 (x3 ++ [x0.extract (x4 : Int).toNat (x5 : Int).toNat]) (wrap64 (x5 + 1)) (wrap64 (x5 + 1))) else (none)) else (none)) else (none)) else (slabvaultref17_parts.l0 k x0 x3 x4 (wrap64 (x5 + 1)))) else (none)) else (none))) else (some x3)
def slabvaultref17_parts.f (k : Nat) (a0 : ByteArray) : Option (List ByteArray) := slabvaultref17_parts.l0 k a0 ([] : List ByteArray) 1 1
end Go.Proofs.YtbmginkdlcpnpaaDoor.Wk
end
section
namespace Go.Proofs.YtbmginkdlcpnpaaDoor.Wk
open Go.RowKit Go.Proofs.YtbmginkdlcpnpaaDoorW.PrintWords Go.Proofs.YtbmginkdlcpnpaaDoorW.PrintLast Go.Proofs.YtbmginkdlcpnpaaDoorW.PrintMore
attribute [local go_sem] max2_int min2_int max_two min_two max_three min_three max_four min_four
set_option linter.unusedVariables false
set_option linter.unusedSimpArgs false
mutual
def slabvaultref17_Parse.j0 : Nat → ByteArray → Bool → Option (List ByteArray × Int × Int)
  | 0, _, _ => none
  | k + 1, x0, x18 => if x18 = true then (some (([] : List ByteArray), 0, 9)) else ((slabvaultref17_parts.f k x0).bind fun t135 => (slabvaultref17_Parse.l0 k ([] : List ByteArray) t135 0))
def slabvaultref17_Parse.l0 : Nat → List ByteArray → List ByteArray → Int → Option (List ByteArray × Int × Int)
  | 0, _, _, _ => none
  | k + 1, x5, x6, x7 => if x7 < (x6.length : Int) then (if 0 ≤ x7 then (if (rdOf ByteArray.empty x6 x7).toList = ([] : List UInt8) then (slabvaultref17_Parse.j2 k x5 x6 x7 true) else (slabvaultref17_Parse.j2 k x5 x6 x7 ((rdOf ByteArray.empty x6 x7).toList == ([46] : List UInt8)))) else (none)) else (some (x5, 0, 0))
def slabvaultref17_Parse.j2 : Nat → List ByteArray → List ByteArray → Int → Bool → Option (List ByteArray × Int × Int)
  | 0, _, _, _, _ => none
  | k + 1, x5, x6, x7, x38 => if x38 = true then (slabvaultref17_Parse.l0 k x5 x6 (wrap64 (x7 + 1))) else (if 0 ≤ x7 then (if x7 < (x6.length : Int) then ((slabvaultref09_Name.f k (rdOf ByteArray.empty x6 x7)).bind fun t141 => (if t141 = true then (if (x5.length : Int) = 16 then (some (([] : List ByteArray), 16, 3)) else (if x5.length < 8796093022208 then (slabvaultref17_Parse.l0 k (x5 ++ [rdOf ByteArray.empty x6 x7]) x6 (wrap64 (x7 + 1))) else (none))) else (some (([] : List ByteArray), (x5.length : Int), 8)))) else (none)) else (none))
end
def slabvaultref17_Parse.f (k : Nat) (a0 : ByteArray) : Option (List ByteArray × Int × Int) := if (a0.size : Int) > 1024 then (some (([] : List ByteArray), 0, 3)) else (if (a0.size : Int) = 0 then (slabvaultref17_Parse.j0 k a0 true) else (if 0 < (a0.size : Int) then (slabvaultref17_Parse.j0 k a0 ((bt a0 0) != 47)) else (none)))
end Go.Proofs.YtbmginkdlcpnpaaDoor.Wk
end
section
namespace Go.Proofs.YtbmginkdlcpnpaaDoor.Wk
open Go.RowKit Go.Proofs.YtbmginkdlcpnpaaDoorW.PrintWords Go.Proofs.YtbmginkdlcpnpaaDoorW.PrintLast Go.Proofs.YtbmginkdlcpnpaaDoorW.PrintMore
attribute [local go_sem] max2_int min2_int max_two min_two max_three min_three max_four min_four
set_option linter.unusedVariables false
set_option linter.unusedSimpArgs false
def slabvaultref17_Join.l0 : Nat → List ByteArray → ByteArray → Int → Option (ByteArray × Int × Int)
  | 0, _, _, _ => none
  | k + 1, x0, x5, x6 => if x6 < (x0.length : Int) then (if 0 ≤ x6 then ((slabvaultref09_Name.f k (rdOf ByteArray.empty x0 x6)).bind fun t159 => (if t159 = true then (if x5.size + 1 ≤ 9223372036854775807 then (if (x5 ++ (⟨#[47]⟩ : ByteArray)).size + (rdOf ByteArray.empty x0 x6).size ≤ 9223372036854775807 then (slabvaultref17_Join.l0 k x0 ((x5 ++ (⟨#[47]⟩ : ByteArray)) ++ (rdOf ByteArray.empty x0 x6)) (wrap64 (x6 + 1))) else (none)) else (none)) else (some ((⟨#[]⟩ : ByteArray), x6, 8)))) else (none)) else (if (x5.size : Int) > 1024 then (some ((⟨#[]⟩ : ByteArray), 0, 3)) else (if x5.toList = ([] : List UInt8) then (some ((⟨#[47]⟩ : ByteArray), 0, 0)) else (some (x5, 0, 0))))
def slabvaultref17_Join.f (k : Nat) (l0 : List ByteArray) : Option (ByteArray × Int × Int) := if (l0.length : Int) > 16 then (some ((⟨#[]⟩ : ByteArray), 0, 3)) else (slabvaultref17_Join.l0 k l0 (⟨#[]⟩ : ByteArray) 0)
end Go.Proofs.YtbmginkdlcpnpaaDoor.Wk
end
section
namespace Go.Proofs.YtbmginkdlcpnpaaDoor.Wk
open Go.RowKit Go.Proofs.YtbmginkdlcpnpaaDoorW.PrintWords Go.Proofs.YtbmginkdlcpnpaaDoorW.PrintLast Go.Proofs.YtbmginkdlcpnpaaDoorW.PrintMore
attribute [local go_sem] max2_int min2_int max_two min_two max_three min_three max_four min_four
set_option linter.unusedVariables false
set_option linter.unusedSimpArgs false
def slabvaultref17_Split.f (k : Nat) (a0 : ByteArray) : Option (ByteArray × ByteArray × Int × Int) := (slabvaultref17_Parse.f k a0).bind fun bt230 => (if bt230.2.2 = 0 then (if (bt230.1.length : Int) = 0 then (some ((⟨#[]⟩ : ByteArray), (⟨#[]⟩ : ByteArray), 0, 11)) else (if 0 ≤ (wrap64 ((bt230.1.length : Int) - 1)) then (if (wrap64 ((bt230.1.length : Int) - 1)) ≤ (bt230.1.length : Int) then ((slabvaultref17_Join.f k (bt230.1.take ((wrap64 ((bt230.1.length : Int) - 1)) : Int).toNat)).bind fun bt239 => (if (wrap64 ((bt230.1.length : Int) - 1)) < (bt230.1.length : Int) then (some (bt239.1, rdOf ByteArray.empty bt230.1 (wrap64 ((bt230.1.length : Int) - 1)), 0, 0)) else (none))) else (none)) else (none))) else (some ((⟨#[]⟩ : ByteArray), (⟨#[]⟩ : ByteArray), bt230.2.1, bt230.2.2)))
end Go.Proofs.YtbmginkdlcpnpaaDoor.Wk
end
section
namespace Go.Proofs.YtbmginkdlcpnpaaDoor.Wk
open Go.RowKit Go.Lib Go.Proofs.YtbmginkdlcpnpaaDoorW.PrintWords Go.Proofs.YtbmginkdlcpnpaaDoorW.PrintLast Go.Proofs.YtbmginkdlcpnpaaDoorW.PrintMore
set_option linter.unusedVariables false
theorem wrap_nat (i : Nat) (h : i < 9223372036854775806) : wrap64 ((i : Int) + 1) = ((i + 1 : Nat) : Int) := by
  unfold wrap64
  omega
theorem any_cons (b : UInt8) (l : List UInt8) : Lib.containsAny (b :: l) [47, 0] = (decide (b = 47 ∨ b = 0) || Lib.containsAny l [47, 0]) := by
  have hg := Lib.indexAny_ge [47, 0] l
  by_cases h : b = 47 ∨ b = 0
  · have hc : ([47, 0] : List UInt8).contains b = true := by rcases h with rfl | rfl <;> rfl
    simp [Lib.containsAny, Lib.indexAny, h]
  · have hc : ([47, 0] : List UInt8).contains b = false := by
      simp only [List.contains_cons, List.contains_nil, Bool.or_false, Bool.or_eq_false_iff, beq_eq_false_iff_ne]
      exact ⟨fun e => h (.inl e), fun e => h (.inr e)⟩
    have hd : decide (b = 47 ∨ b = 0) = false := decide_eq_false h
    rw [hd, Bool.false_or]
    unfold Lib.containsAny
    congr 1
    rw [Lib.indexAny, if_neg (by rw [hc]; simp)]
    split
    · rename_i h1
      have : Lib.indexAny l [47, 0] = -1 := by simpa using h1
      rw [this]
    · rename_i h1
      have : Lib.indexAny l [47, 0] ≠ -1 := by simpa using h1
      apply propext
      omega
theorem textsLoop (l : List ByteArray) (hl : l.length < 9223372036854775806) : ∀ (d i k : Nat), l.length - i = d → i ≤ l.length → d < k → slabvaultlaw17_texts.l0 k l l (i : Int) = some true := by
  intro d
  induction d with
  | zero =>
    intro i k hd hi hk
    obtain ⟨k, rfl⟩ : ∃ m, k = m + 1 := ⟨k - 1, by omega⟩
    simp only [slabvaultlaw17_texts.l0]
    rw [if_neg (by omega)]
  | succ d ih =>
    intro i k hd hi hk
    obtain ⟨k, rfl⟩ : ∃ m, k = m + 1 := ⟨k - 1, by omega⟩
    simp only [slabvaultlaw17_texts.l0]
    rw [if_pos (by omega), if_pos (by omega), if_pos (by omega), if_true, wrap_nat i (by omega)]
    exact ih (i + 1) k (by omega) (by omega) (by omega)
theorem texts_refl (l : List ByteArray) (hl : l.length < 9223372036854775806) (k : Nat) (hk : l.length < k) : slabvaultlaw17_texts.f k l l = some true := by
  unfold slabvaultlaw17_texts.f
  rw [if_pos rfl]
  exact textsLoop l hl l.length 0 k (by omega) (by omega) hk
theorem cutL_cons_slash (l : List UInt8) : cutL (47 :: l) = [] :: cutL l := by simp [cutL]
theorem cutL_cons (b : UInt8) (l : List UInt8) (h : b ≠ 47) (p : List UInt8) (ps : List (List UInt8)) (hp : cutL l = p :: ps) : cutL (b :: l) = (b :: p) :: ps := by
  rw [show cutL (b :: l) = (if b = 47 then [] :: cutL l else match cutL l with | [] => [[b]] | p :: ps => (b :: p) :: ps) from rfl, if_neg h, hp]
def three : Except (Nat × Int) (List ByteArray) → List ByteArray × Int × Int
  | .ok l => (l, 0, 0)
  | .error (a, y) => ([], a, y)
theorem rdOf_nat (l : List ByteArray) (i : Nat) (h : i < l.length) : rdOf ByteArray.empty l (i : Int) = l[i] := by
  simp [rdOf, List.getD_eq_getElem?_getD, List.getElem?_eq_getElem h]
def slashes (l : List ByteArray) : List UInt8 := l.flatMap (fun x => 47 :: x.data.toList)
theorem slashed_eq : ∀ l : List ByteArray, slashed l = if l = [] then [47] else slashes l
  | [] => rfl
  | [x] => by simp [slashed, slashes, Lib.join]
  | x :: y :: l => by
    have ih := slashed_eq (y :: l)
    simp [slashed, slashes, Lib.join] at ih ⊢
    exact ih
theorem slashes_append (a b : List ByteArray) : slashes (a ++ b) = slashes a ++ slashes b := by simp [slashes]
def threeS : Except (Nat × Int) ByteArray → ByteArray × Int × Int
  | .ok s => (s, 0, 0)
  | .error (a, y) => (⟨#[]⟩, a, y)
theorem joinF_all (l : List ByteArray) (h16 : l.length ≤ 16) (h : ∀ j x, j < l.length → l[j]? = some x → goodName x = true) : joinF l = if 1024 < (slashed l).length then .error (0, 3) else .ok ⟨(slashed l).toArray⟩ := by
  unfold joinF
  rw [if_neg (by omega), firstBad_none l h]
theorem parseStep_len {acc l : List ByteArray} {p : ByteArray} (h : parseStep acc p = .ok l) (ha : acc.length ≤ 16) : l.length ≤ 16 := by
  unfold parseStep at h
  split at h
  · cases h; exact ha
  · split at h
    · cases h; exact ha
    · split at h
      · cases h
      · split at h
        · cases h
        · cases h; simp; omega
theorem parseL_len : ∀ (ps acc l : List ByteArray), parseL acc ps = .ok l → acc.length ≤ 16 → l.length ≤ 16
  | [], acc, l, h, ha => by cases h; exact ha
  | p :: ps, acc, l, h, ha => by
    unfold parseL at h
    cases hp : parseStep acc p with
    | ok a => rw [hp] at h; exact parseL_len ps a l h (parseStep_len hp ha)
    | error e => rw [hp] at h; cases h
theorem parseF_len {s : ByteArray} {l : List ByteArray} (h : parseF s = .ok l) : l.length ≤ 16 := by
  unfold parseF at h
  split at h
  · cases h
  · split at h
    · cases h
    · exact parseL_len _ _ _ h (by simp)
end Go.Proofs.YtbmginkdlcpnpaaDoor.Wk
end
section
namespace Go.Proofs.YtbmginkdlcpnpaaDoor.Wk
open Go.RowKit Go.Lib Go.Proofs.YtbmginkdlcpnpaaDoorW.PrintWords Go.Proofs.YtbmginkdlcpnpaaDoorW.PrintLast Go.Proofs.YtbmginkdlcpnpaaDoorW.PrintMore
set_option linter.unusedVariables false
theorem lives10 : slabvaultlaw17_lives.f 10 = some true := by decide +kernel
theorem lives_ok (k : Nat) (hk : 10 ≤ k) : slabvaultlaw17_lives.f k = some true := at_rounds slabvaultlaw17_lives.mono hk lives10
theorem cutL_app : ∀ a b : List UInt8, cutL (a ++ 47 :: b) = cutL a ++ cutL b
  | [], b => by simp [cutL]
  | x :: a, b => by
    have ih := cutL_app a b
    by_cases h : x = 47
    · subst h
      rw [List.cons_append, cutL_cons_slash, cutL_cons_slash, ih, List.cons_append]
    · obtain ⟨q, qs, hq⟩ : ∃ q qs, cutL a = q :: qs := by
        cases h : cutL a with
        | nil => exact absurd h (cutL_ne _)
        | cons q qs => exact ⟨q, qs, rfl⟩
      rw [List.cons_append, cutL_cons x a h q qs hq, cutL_cons x (a ++ 47 :: b) h q (qs ++ cutL b) (by rw [ih, hq, List.cons_append]), List.cons_append]
theorem cutL_pure : ∀ a : List UInt8, (∀ x ∈ a, x ≠ 47) → cutL a = [a]
  | [], _ => rfl
  | x :: a, h => cutL_cons x a (h x (by simp)) a [] (cutL_pure a (fun y hy => h y (by simp [hy])))
theorem any_false : ∀ l : List UInt8, Lib.containsAny l [47, 0] = false → ∀ x ∈ l, x ≠ 47
  | [], _ => by simp
  | b :: l, h => by
    rw [any_cons, Bool.or_eq_false_iff] at h
    intro x hx
    rcases List.mem_cons.1 hx with rfl | hx
    · intro e
      have := h.1
      simp [e] at this
    · exact any_false l h.2 x hx
theorem good_parts (x : ByteArray) (h : goodName x = true) : x.toList.isEmpty = false ∧ (x.toList == [46]) = false ∧ ∀ b ∈ x.data.toList, b ≠ 47 := by
  unfold goodName at h
  simp only [Bool.and_eq_true, Bool.not_eq_true', decide_eq_true_eq] at h
  exact ⟨h.1.1.1.1, h.1.1.2, any_false _ h.2⟩
theorem parts_slashed (x : ByteArray) (l : List ByteArray) (h : ∀ y ∈ x :: l, goodName y = true) : (cutL (slashes (x :: l)).tail).map mkB = x :: l := by
  induction l generalizing x with
  | nil =>
    rw [show (slashes [x]).tail = x.data.toList by simp [slashes], cutL_pure _ (good_parts x (h x (by simp))).2.2]
    simp [mkB_data]
  | cons y l ih =>
    have hy := ih y (fun z hz => h z (by simp at hz ⊢; exact .inr hz))
    rw [show (slashes (x :: y :: l)).tail = x.data.toList ++ 47 :: (slashes (y :: l)).tail by simp [slashes], cutL_app, cutL_pure _ (good_parts x (h x (by simp))).2.2, List.map_append, hy]
    simp [mkB_data]
theorem parseL_good : ∀ (l acc : List ByteArray), (∀ y ∈ l, goodName y = true) → acc.length + l.length ≤ 16 → parseL acc l = .ok (acc ++ l)
  | [], acc, _, _ => by simp [parseL]
  | x :: l, acc, h, hl => by
    obtain ⟨h1, h2, -⟩ := good_parts x (h x (by simp))
    have hs : parseStep acc x = .ok (acc ++ [x]) := by
      unfold parseStep
      simp only [List.length_cons] at hl
      rw [h1, h2, h x (by simp), if_neg (by simp), if_neg (by simp), if_neg (by simp), if_neg (by omega)]
    rw [show parseL acc (x :: l) = match parseStep acc x with | .ok a => parseL a l | .error e => .error e from rfl, hs]
    simp only
    rw [parseL_good l (acc ++ [x]) (fun y hy => h y (by simp [hy])) (by simp at hl ⊢; omega)]
    simp
theorem join_ok {l : List ByteArray} {s : ByteArray} (h : joinF l = .ok s) : l.length ≤ 16 ∧ (∀ y ∈ l, goodName y = true) ∧ (slashed l).length ≤ 1024 ∧ s = ⟨(slashed l).toArray⟩ := by
  unfold joinF at h
  split at h
  · cases h
  · rename_i h16
    split at h
    · cases h
    · rename_i hb
      split at h
      · cases h
      · rename_i hs
        cases h
        refine ⟨by omega, ?_, by omega, rfl⟩
        intro y hy
        obtain ⟨j, hj, rfl⟩ := List.getElem_of_mem hy
        clear hy
        revert hb
        have key : ∀ (l : List ByteArray) (i : Nat), firstBad i l = none → ∀ j (hj : j < l.length), goodName l[j] = true := by
          intro l
          induction l with
          | nil => intro i _ j hj; simp at hj
          | cons a t ih =>
            intro i h j hj
            unfold firstBad at h
            split at h
            · cases h
            · rename_i hg
              cases j with
              | zero => simpa using hg
              | succ j => exact ih (i + 1) h j (by simpa using hj)
        exact fun hb => key l 0 hb j hj
theorem parse_mk (l : List UInt8) (hl : (47 :: l).length ≤ 1024) : parseF ⟨(47 :: l).toArray⟩ = parseL [] ((cutL l).map mkB) := by
  have hz : (⟨(47 :: l).toArray⟩ : ByteArray).size = (47 :: l).length := by rw [Lib.size_eq]
  have hd : (⟨(47 :: l).toArray⟩ : ByteArray).data.toList = 47 :: l := rfl
  unfold parseF
  rw [if_neg (by omega), hd, if_neg (by simp [Lib.hasPrefix])]
  unfold partsB
  rw [Lib.extract_data, hd, hz]
  congr 3
  simp
theorem parse_join {l : List ByteArray} {s : ByteArray} (h : joinF l = .ok s) : parseF s = .ok l := by
  obtain ⟨h16, hg, hlen, rfl⟩ := join_ok h
  rw [slashed_eq] at hlen ⊢
  cases l with
  | nil =>
    rw [if_pos rfl, parse_mk [] (by simp)]
    simp [cutL, parseL, parseStep, mkB, ByteArray.toList_eq]
  | cons x l =>
    rw [if_neg (by simp)] at hlen ⊢
    have hc : slashes (x :: l) = 47 :: (slashes (x :: l)).tail := by simp [slashes]
    rw [hc] at hlen ⊢
    rw [parse_mk _ hlen, parts_slashed x l hg, parseL_good (x :: l) [] hg (by simpa using h16)]
    rfl
theorem parse_form {s : ByteArray} {l : List ByteArray} (h : parseF s = .ok l) : ∃ t, s.data.toList = 47 :: t ∧ (47 :: t).length ≤ 1024 ∧ parseL [] ((cutL t).map mkB) = .ok l := by
  have hz := Lib.size_eq s
  have h0 := h
  unfold parseF at h
  split at h
  · cases h
  · rename_i h1
    split at h
    · cases h
    · rename_i h2
      cases hd : s.data.toList with
      | nil => rw [hd] at h2; simp [Lib.hasPrefix] at h2
      | cons b t =>
        rw [hd] at h2 hz
        have hb : b = 47 := by
          simp [Lib.hasPrefix] at h2
          exact h2.symm
        subst hb
        have hlen : (47 :: t).length ≤ 1024 := by omega
        refine ⟨t, rfl, hlen, ?_⟩
        rw [← parse_mk t hlen, show (⟨(47 :: t).toArray⟩ : ByteArray) = s from mkB_eq (by rw [hd])]
        exact h0
theorem parseL_shift : ∀ (ps b l : List ByteArray), parseL b ps = .ok l → ∃ n, l = b ++ n ∧ (∀ y ∈ n, goodName y = true) ∧ (slashes n).length ≤ (slashes ps).length ∧
    ∀ acc : List ByteArray, acc.length ≤ 16 → parseL acc ps = if acc.length + n.length ≤ 16 then .ok (acc ++ n) else .error (16, 3)
  | [], b, l, h => by
    cases h
    exact ⟨[], by simp, by simp, by simp, fun acc ha => by simp [parseL, ha]⟩
  | p :: ps, b, l, h => by
    have hpl : ∀ acc, parseL acc (p :: ps) = match parseStep acc p with | .ok a => parseL a ps | .error e => .error e := fun acc => rfl
    rw [hpl] at h
    have hsl : (slashes ps).length ≤ (slashes (p :: ps)).length := by simp [slashes]; omega
    cases k1 : p.toList.isEmpty
    · cases k2 : (p.toList == [46])
      · cases k3 : goodName p
        · have : parseStep b p = .error (b.length, 8) := by simp [parseStep, k1, k2, k3]
          rw [this] at h
          cases h
        · by_cases k4 : b.length = 16
          · have : parseStep b p = .error (b.length, 3) := by simp [parseStep, k1, k2, k3, k4]
            rw [this] at h
            cases h
          · have : parseStep b p = .ok (b ++ [p]) := by simp [parseStep, k1, k2, k3, k4]
            rw [this] at h
            obtain ⟨n, hn, hg, hlen, hall⟩ := parseL_shift ps (b ++ [p]) l h
            refine ⟨p :: n, by rw [hn]; simp, fun y hy => ?_, ?_, fun acc ha => ?_⟩
            · rcases List.mem_cons.1 hy with rfl | hy
              · exact k3
              · exact hg y hy
            · simp [slashes] at hlen ⊢
              omega
            · rw [hpl]
              by_cases k5 : acc.length = 16
              · have : parseStep acc p = .error (acc.length, 3) := by simp [parseStep, k1, k2, k3, k5]
                rw [this, k5, if_neg (by simp)]
              · have : parseStep acc p = .ok (acc ++ [p]) := by simp [parseStep, k1, k2, k3, k5]
                rw [this]
                simp only
                rw [hall (acc ++ [p]) (by simp; omega)]
                simp only [List.length_append, List.length_cons, List.length_nil, List.append_assoc, List.cons_append, List.nil_append]
                by_cases h6 : acc.length + 1 + n.length ≤ 16
                · rw [if_pos (by omega), if_pos (by omega)]
                · rw [if_neg (by omega), if_neg (by omega)]
      · have hs : ∀ acc, parseStep acc p = .ok acc := fun acc => by simp [parseStep, k2]
        rw [hs] at h
        obtain ⟨n, hn, hg, hlen, hall⟩ := parseL_shift ps b l h
        exact ⟨n, hn, hg, Nat.le_trans hlen hsl, fun acc ha => by rw [hpl, hs]; exact hall acc ha⟩
    · have hs : ∀ acc, parseStep acc p = .ok acc := fun acc => by simp [parseStep, k1]
      rw [hs] at h
      obtain ⟨n, hn, hg, hlen, hall⟩ := parseL_shift ps b l h
      exact ⟨n, hn, hg, Nat.le_trans hlen hsl, fun acc ha => by rw [hpl, hs]; exact hall acc ha⟩
theorem slashes_cut : ∀ t : List UInt8, (slashes ((cutL t).map mkB)).length = t.length + 1
  | [] => rfl
  | b :: t => by
    have ih := slashes_cut t
    by_cases h : b = 47
    · subst h
      rw [cutL_cons_slash]
      simp [slashes, data_mkB] at ih ⊢
      omega
    · obtain ⟨q, qs, hq⟩ : ∃ q qs, cutL t = q :: qs := by
        cases h : cutL t with
        | nil => exact absurd h (cutL_ne _)
        | cons q qs => exact ⟨q, qs, rfl⟩
      rw [cutL_cons b t h q qs hq]
      rw [hq] at ih
      simp [slashes, data_mkB] at ih ⊢
      omega
theorem parse_facts {s : ByteArray} {l : List ByteArray} (h : parseF s = .ok l) : (∀ y ∈ l, goodName y = true) ∧ l.length ≤ 16 ∧ (slashed l).length ≤ s.size ∧ s.size ≤ 1024 := by
  obtain ⟨t, hd, hlen, hp⟩ := parse_form h
  have hz := Lib.size_eq s
  rw [hd] at hz
  obtain ⟨n, hn, hg, hsl, -⟩ := parseL_shift _ _ _ hp
  rw [List.nil_append] at hn
  subst hn
  rw [slashes_cut] at hsl
  refine ⟨hg, parseF_len h, ?_, by omega⟩
  rw [slashed_eq]
  simp only [List.length_cons] at hz
  split
  · simp; omega
  · omega
theorem join_of_good {l : List ByteArray} (hg : ∀ y ∈ l, goodName y = true) (h16 : l.length ≤ 16) (hs : (slashed l).length ≤ 1024) : joinF l = .ok ⟨(slashed l).toArray⟩ := by
  rw [joinF_all l h16 (fun j x hj hx => hg x (List.mem_of_getElem? hx)), if_neg (by omega)]
end Go.Proofs.YtbmginkdlcpnpaaDoor.Wk
end
section
namespace Go.Proofs.YtbmginkdlcpnpaaDoor.Wk
open Go.RowKit Go.Proofs.YtbmginkdlcpnpaaDoorW.PrintWords Go.Proofs.YtbmginkdlcpnpaaDoorW.PrintLast Go.Proofs.YtbmginkdlcpnpaaDoorW.PrintMore
attribute [local go_sem] max2_int min2_int max_two min_two max_three min_three max_four min_four
set_option linter.unusedVariables false
set_option linter.unusedSimpArgs false
def path_Name.f (a0 : ByteArray) : Option Bool := some (goodName a0)
theorem path_Name.calls (a0 : ByteArray) (r : Bool) (w : World) (h : path_Name.f a0 = some r) :
    Calls Tryd.prog 10 #[.string a0] w fun e w' => e = .returned (.bool r) ∧ Below w.heap.size w w' := by
  cases h
  exact name_calls a0 w
end Go.Proofs.YtbmginkdlcpnpaaDoor.Wk
end
section
namespace Go.Proofs.YtbmginkdlcpnpaaDoor.Wk
open Go.RowKit Go.Proofs.YtbmginkdlcpnpaaDoorW.PrintWords Go.Proofs.YtbmginkdlcpnpaaDoorW.PrintLast Go.Proofs.YtbmginkdlcpnpaaDoorW.PrintMore
attribute [local go_sem] max2_int min2_int max_two min_two max_three min_three max_four min_four
set_option linter.unusedVariables false
set_option linter.unusedSimpArgs false
def slabvaultlaw17_PathNames.f (k : Nat) (a0 : ByteArray) : Option (Bool) := (path_Name.f a0).bind fun t126 => ((slabvaultref09_Name.f k a0).bind fun t127 => (if (t126 == t127) = true then ((slabvaultlaw17_lives.f k).bind fun t128 => (some t128)) else (none)))
def slabvaultlaw17_PathNames.Pure : Prop := ∀ (a0 : ByteArray), a0.size ≤ 140737488351232 → ∃ k, slabvaultlaw17_PathNames.f k a0 = some true
end Go.Proofs.YtbmginkdlcpnpaaDoor.Wk
end
section
namespace Go.Proofs.YtbmginkdlcpnpaaDoor.Wk
open Go.RowKit Go.Proofs.YtbmginkdlcpnpaaDoorW.PrintWords Go.Proofs.YtbmginkdlcpnpaaDoorW.PrintLast Go.Proofs.YtbmginkdlcpnpaaDoorW.PrintMore
attribute [local go_sem] max2_int min2_int max_two min_two max_three min_three max_four min_four
set_option linter.unusedVariables false
set_option linter.unusedSimpArgs false
def slabvaultlaw17_PathParses.f (k : Nat) (a0 : ByteArray) : Option (Bool) := (path_Parse.f a0).bind fun bt146 => ((slabvaultref17_Parse.f k a0).bind fun bt151 => ((slabvaultlaw17_texts.f k bt146.1 bt151.1).bind fun t156 => (if t156 = true then (if bt146.2.1 = bt151.2.1 then (if bt146.2.2 = bt151.2.2 then ((slabvaultlaw17_lives.f k).bind fun t157 => (some t157)) else (none)) else (none)) else (none))))
def slabvaultlaw17_PathParses.Pure : Prop := ∀ (a0 : ByteArray), a0.size ≤ 140737488351232 → ∃ k, slabvaultlaw17_PathParses.f k a0 = some true
end Go.Proofs.YtbmginkdlcpnpaaDoor.Wk
end
