-- Texts that the row GraphHeld leans on, joined by wip/tools/mkclaim.py: GLawHeld
import Derived.Test.YthifdofdoeaemaaGreatDoorCGraphHeld2
import Derived.Test.YthifdofdoeaemaaGreatDoorProg
import Derived.Below
import Derived.Deep.Draws
import Derived.Deep.AppendLies
import Derived.Maps.AppendAt
import Derived.OwnWalk
import Derived.Laws.BytesArg
import Derived.Laws.MakeOwn
import Derived.Laws.OwnMore
import Derived.Deep.OwnRows
import Derived.Tactics
import Derived.Lib.ConvBytes
import Derived.Laws.Slices
import Derived.WalkKit
import Derived.KernelRfl
import Derived.RowKit3
import Derived.Deep.LoopGhost
import Derived.Deep.QuietTactic
import Derived.BigQuiet
import Derived.WideLaws
import Derived.Deep.DeepCutAuto
import Derived.Deep.CutBlock
import Derived.Deep.RegionHeld3
import Derived.Laws.Rows
import Derived.Lib.AppendStr
import Derived.ArgAppend
import Derived.Laws.IdiomCopy
import Derived.OrdersHeld
import Derived.Laws.BitsLemmas
import Derived.RowKit
import Derived.WalkSpells
import Derived.Sort.LoopGhostIn
import Derived.Sort.CutIn
import Derived.Shelf.Abstract
import Derived.Shelf.RegionOpen
import Derived.OwnWalkIn
import Derived.TacticsInMore
import Derived.LoopNIn
import Derived.LoopIn
section
namespace Go.Proofs.YthifdofdoeaemaaGreatDoor.Wk
open Go.RowKit Go.Proofs.YthifdofdoeaemaaGreatDoorW.PrintWords Go.Proofs.YthifdofdoeaemaaGreatDoorW.PrintLast Go.Proofs.YthifdofdoeaemaaGreatDoorW.PrintMore
attribute [local go_sem] max2_int min2_int max_two min_two max_three min_three max_four min_four
set_option linter.unusedVariables false
set_option linter.unusedSimpArgs false
section
open Go.RowKit Go.Lib Go.Maps Go.Proofs.YthifdofdoeaemaaGreatDoorQ
attribute [local go_sem] Oper.semAt_some
theorem wrap_ok8 (a : Int) (h0 : -4611686018427387904 ≤ a) (h1 : a < 4611686018427387904) : wrap64 a = a := by unfold wrap64; omega
theorem hold_keys {G G2 : GS} {id e : Int} (h : holdG G id = some (e, G2)) : ∀ y ∈ G2.objs, ∃ z ∈ G.objs, y.1 = z.1 := by
  unfold holdG at h
  split at h
  · cases h; exact fun y hy => ⟨y, hy, rfl⟩
  · split at h
    · cases h
      intro y hy
      obtain ⟨z, hz, e⟩ := key_setO (show y ∈ setO G.objs id (fun o => { o with held := o.held + 1 }) from hy)
      exact ⟨z, hz, e⟩
    · cases h
theorem wf_small {id : Int} (h1 : 1 ≤ id) (h2 : id < 1000) : (Lit.int .i64 id).wf = true := by
  show (decide (IntKind.i64.min ≤ id) && decide (id ≤ IntKind.i64.max)) = true
  rw [show IntKind.i64.min = -9223372036854775808 by kernel_rfl, show IntKind.i64.max = 9223372036854775807 by kernel_rfl, Bool.and_eq_true, decide_eq_true_eq, decide_eq_true_eq]
  omega
theorem hold_mine {w0 w : World} {g : Nat} {F : Nat → Prop} {G : GS} (h : Mine w0 w g F G) (id : Int) (hw : (Lit.int .i64 id).wf = true) {e : Int} {G2 : GS} (hf : holdG G id = some (e, G2)) :
    Calls Tryz.prog 25 #[.pointer (some ⟨g, 0, none⟩), .int .i64 id] w fun ev w' => ev = .returned (.int .i64 e) ∧ Mine w0 w' g F G2 ∧ SameOn (fun k => ¬ F k) w w' := by
  obtain ⟨B, rfl, h2, h3, h4, h5⟩ := h
  refine (hold_calls B G id w h2 hw e G2 hf).mono ?_
  rintro ev w' ⟨rfl, hg, hs⟩
  exact ⟨rfl, mine_turn h2 h3 h4 h5 hg hs (hold_keys hf)⟩
theorem kind_mine {w0 w : World} {g : Nat} {F : Nat → Prop} {G : GS} (h : Mine w0 w g F G) (id : Int) (hw : (Lit.int .i64 id).wf = true) {k e : Int} (hf : kindG G id = (k, e)) :
    Calls Tryz.prog 26 #[.pointer (some ⟨g, 0, none⟩), .int .i64 id] w fun ev w' => ev = .returned (.tuple #[.int .i64 k, .int .i64 e]) ∧ w' = w := by
  obtain ⟨B, rfl, h2, -⟩ := h
  have := kind_calls B G id w h2 hw
  rw [hf] at this
  exact this
theorem free_mine {w0 w : World} {g : Nat} {F : Nat → Prop} {G : GS} (h : Mine w0 w g F G) (n : Nat) (id : Int) (hw : (Lit.int .i64 id).wf = true) {r : List Int} {e : Int} {G2 : GS} (hf : freeG n G id = some (r, e, G2)) :
    Calls Tryz.prog 27 #[.pointer (some ⟨g, 0, none⟩), .int .i64 id] w fun ev w' => ∃ v, ev = .returned (.tuple #[v, .int .i64 e]) ∧ w'.ownsRow w.heap.size 3 1 v r.length (r.map (.int .i64)) ∧ Mine w0 w' g F G2 ∧ SameOn (fun k => ¬ F k) w w' := by
  obtain ⟨B, rfl, h2, h3, h4, h5⟩ := h
  refine (free_calls n B G id w h2 hw r e G2 hf).mono ?_
  rintro ev w' ⟨v, rfl, hr, hg, hk, hs⟩
  exact ⟨v, rfl, hr, mine_turn h2 h3 h4 h5 hg hs hk⟩
theorem own_frozen {W : World} {base n size : Nat} {e : TypeId} {v : Value} {xs : List Value} (h : W.ownsRow base e size v n xs) {g i : Nat} (hg : v.ownBlock = some g) : W.frozen? ⟨g, i, none⟩ = false := by
  rcases h.2 with ⟨rfl, _⟩ | ⟨g', cap, cur, rfl, _, hh, _⟩
  · cases hg
  · obtain rfl : g' = g := by simpa [Value.ownBlock] using hg
    simp [World.frozen?, hh]
set_option maxHeartbeats 8000000 in
set_option maxRecDepth 100000 in
theorem law8_calls (A : Option Addr) (c : Nat) (acts : List ActD) (p : ByteArray) (tv : Int) (w : World) (hl : Lay w) (hr : ActRow w A acts) (hc : acts.length ≤ c) (h0 : 0 ≤ tv) (h1 : tv < 18446744073709551616) :
    Calls Tryz.prog 8 #[.slice A acts.length c, .string p, .int .u64 tv] w fun e w' => e = .returned (.bool true) ∧ Below w.heap.size w w' := by
  have HL := Aside0.mk hl
  have HR := Aside0.mk hr
  clear hl hr
  go_enter Tryz.func8, Tryz.ntmps8
  go_upto_region 2 with (go_at_call 19; refine (played_calls A c acts _ HL.out HR.out hc).mono ?_; rintro e_ w1 ⟨g, F, G, rfl, hm, hpg, hpl⟩; have HM1 := Aside0.mk hm; have HPL := Aside0.mk hpl; have HAC := Aside0.mk (acyc_played hpg); clear hm hpl hpg)
  obtain ⟨⟨id, e⟩, hf, hf0, hf1⟩ := find_ok HPL.out.ok p
  simp only at hf0 hf1
  have HF := Aside0.mk hf
  clear hf
  go_upto_region 3 with (go_at_call 17; refine (find_mine HM1.out HL.out p HF.out).mono ?_; rintro e_ w2 ⟨rfl, hb⟩; have HM2 := Aside0.mk (HM1.out.step hb); clear hb)
  by_cases he : e = 0
  rotate_left
  · obtain rfl := hf1 he
    have e1 : (e != 0) = true := by simpa using he
    have e2 : (e == 0) = false := by simpa using he
    go_wp2_with (go_at_call 14; refine (lives_calls _ (HM2.out.lay HL.out)).mono ?_; rintro e_ w3 ⟨rfl, hb⟩; have HB3 := Aside0.mk hb; clear hb)
    go_ret
    exact ⟨rfl, HM2.out.below.trans (HB3.out.mono HM2.out.below.size)⟩
  subst he
  by_cases hid : id = 1
  · subst hid
    go_wp2_with (go_at_call 14; refine (lives_calls _ (HM2.out.lay HL.out)).mono ?_; rintro e_ w3 ⟨rfl, hb⟩; have HB3 := Aside0.mk hb; clear hb)
    go_ret
    exact ⟨rfl, HM2.out.below.trans (HB3.out.mono HM2.out.below.size)⟩
  have hheld := held_of HPL.out (by omega) HAC.out (hf0 rfl)
  have HH0 := Aside0.mk hheld
  have HWF := Aside0.mk (wf_small hheld.idw.1 hheld.idw.2)
  have HID := Aside0.mk hid
  have i1 : (id == 1) = false := by simpa using hid
  obtain ⟨n, hn, hn1, hn4⟩ : ∃ n : Nat, 1 + tv % 4 = (n : Int) ∧ 1 ≤ n ∧ n ≤ 4 := ⟨(1 + tv % 4).toNat, by omega, by omega, by omega⟩
  obtain ⟨nv, hnv⟩ : ∃ nv, nv = (n : Int) := ⟨_, rfl⟩
  have HNV := Aside0.mk hnv
  have hkw : wrap64 nv = nv := wrap_ok8 _ (by omega) (by omega)
  rw [← hnv] at hn
  clear hheld hf0 hf1 hid hnv
  go_wp2
  go_loopg [11] n (fun kq v11 W => ∃ (i : Nat) (iv : Int) (Gi : GS), v11 = .int .i64 iv ∧ Aside0 (iv = (i : Int)) ∧ Aside0 (i ≤ n ∧ n - i ≤ kq) ∧ Aside0 (Mine w W g F Gi) ∧ Aside0 (HeldP id i Gi))
  case atStart => exact ⟨0, 0, G, rfl, ⟨rfl⟩, ⟨by omega, by omega⟩, HM2, HH0⟩
  case round =>
    obtain ⟨i, iv, Gi, rfl, HIV, HI, HM, HH⟩ := hrel
    by_cases hi : i < n
    · obtain ⟨ko, rfl⟩ : ∃ ko, gk = ko + 1 := ⟨gk - 1, by have := HI.out; omega⟩
      have HLT := Aside0.mk hi
      obtain ⟨G2, hh, hh2⟩ := hold_step HH.out (by omega)
      have HHO := Aside0.mk hh
      have HH2 := Aside0.mk hh2
      have t1 : decide (iv < nv) = true := decide_eq_true (by have := HIV.out; have := HNV.out; omega)
      have t2 : (iv < nv) = True := eq_true (by have := HIV.out; have := HNV.out; omega)
      have w1 : wrap64 (iv + 1) = iv + 1 := wrap_ok8 _ (by have := HIV.out; omega) (by have := HIV.out; omega)
      clear hh hh2 hi
      go_wp2_with (go_at_call 25; refine (hold_mine HM.out id HWF.out HHO.out).mono ?_; rintro e_ w3 ⟨rfl, hm, -⟩; have HM3 := Aside0.mk hm; clear hm)
      go_roundg ko
      case measure => omega
      case rel => exact ⟨i + 1, iv + 1, G2, by rw [w1], ⟨by have := HIV.out; omega⟩, ⟨by have := HLT.out; omega, by have := HI.out; omega⟩, HM3, HH2⟩
    · have hin : i = n := by have := HI.out; omega
      have HHn : Aside0 (HeldP id n Gi) := ⟨hin ▸ HH.out⟩
      have t1 : decide (iv < nv) = false := decide_eq_false (by have := HIV.out; have := HNV.out; omega)
      have t2 : (iv < nv) = False := eq_false (by have := HIV.out; have := HNV.out; omega)
      obtain ⟨o, ho, hok, hnm⟩ := names_root HHn.out.ok
      have HO := Aside0.mk ho
      have HNM := Aside0.mk hnm
      have HLEN : Aside0 (o.links.length ≤ 256) := ⟨HHn.out.ok.len ho⟩
      clear ho hnm hok hi
      go_upto_region 12 with (go_at_call 20; refine (names_mine HM.out HL.out ⟨#[47]⟩ HNM.out).mono ?_; rintro e_ w4 ⟨v4, rfl, hr4, hb4⟩; obtain ⟨A4, k4, rfl⟩ := own_sl3 hr4; have HR4 := Aside0.mk hr4; have HM4 := Aside0.mk (HM.out.step hb4); clear hr4 hb4)
      clear t1 t2
      go_wp2
      go_loopg [14] o.links.length (fun kq v14 W => ∃ (j : Nat) (jv : Int) (Gj : GS), v14 = .int .i64 jv ∧ Aside0 (jv = (j : Int)) ∧ Aside0 (j ≤ o.links.length ∧ o.links.length - j ≤ kq) ∧ Aside0 (Mine w W g F Gj) ∧ Aside0 (HeldP id n Gj) ∧
        Aside0 (∃ oj, (1, oj) ∈ Gj.objs ∧ oj.links = o.links.drop j) ∧ Aside0 (W.ownsRow wr.heap.size 42 3 (.slice A4 o.links.length k4) o.links.length (cells3 o.links)))
      case atStart => exact ⟨0, 0, Gi, rfl, ⟨rfl⟩, ⟨by omega, by omega⟩, HM4, HHn, ⟨o, HO.out, rfl⟩, HR4⟩
      case round =>
        obtain ⟨j, jv, Gj, rfl, HJV, HJ, HMj, HHj, HOJ, HROW⟩ := hrel
        by_cases hlt : j < o.links.length
        · obtain ⟨kj, rfl⟩ : ∃ kj, gk = kj + 1 := ⟨gk - 1, by have := HJ.out; omega⟩
          have HLT := Aside0.mk hlt
          obtain ⟨z, hz⟩ : ∃ z, o.links[j]'hlt = z := ⟨_, rfl⟩
          obtain ⟨oj, hoj, hol⟩ := HOJ.out
          rw [List.drop_eq_getElem_cons hlt, hz] at hol
          obtain ⟨cc, e6, G2, hs, hh2, hni, hcl, hroot2⟩ := held_step HHj.out (by omega) hoj hol
          have hzg : z.1.size ≤ 64 := by
            have h1 := (HHj.out.ok.lk _ hoj z (by rw [hol]; simp)).1
            unfold goodName at h1
            simp only [Bool.and_eq_true, decide_eq_true_eq] at h1
            exact h1.1.1.1.2
          obtain ⟨g4, hA4, hg4, hrg⟩ := link_at HROW.out rfl (show o.links[j]? = some z by rw [List.getElem?_eq_getElem hlt, hz])
          subst hA4
          have u1 : jv.toNat = j := by have := HJV.out; omega
          have hcl4 : wr.cell? ⟨g4, j * 3, none⟩ = some (.string z.1) := hrg 0 _ rfl
          have HS := Aside0.mk hs
          have HH2 := Aside0.mk hh2
          have HNI := Aside0.mk (fun h => hni (mem_sortI.1 h))
          have HO2 := Aside0.mk hroot2
          have HCL : Aside0 ((sortI cc).length ≤ 128) := ⟨by rw [sortI_len]; exact hcl⟩
          have p1 : (0 : Int) ≤ jv := by have := HJV.out; omega
          have q1 : decide (jv < (o.links.length : Int)) = true := decide_eq_true (by have := HJV.out; omega)
          have q2 : (jv < (o.links.length : Int)) = True := eq_true (by have := HJV.out; omega)
          have z1 : (9223372036854775807 < 1 + z.1.size) = False := eq_false (by omega)
          have HNF : Aside0 (∀ q, (Value.slice (some (⟨g4, 0, none⟩ : Addr)) o.links.length k4).ownBlock = some q → ¬ F q) := ⟨fun q hq hf => by have := (HROW.out.lt q hq).1; have := (HM.out.lt hf).2; omega⟩
          clear hs hh2 hni hcl hroot2 hoj hol hrg hz hg4 hlt
          go_upto_region 16 with (go_at_call 18; refine (unlink_mine HMj.out HL.out 300 _ HS.out).mono ?_; rintro e_ w5 ⟨v5, rfl, hr5, hm5, hs5⟩; obtain ⟨A5, k5, rfl⟩ := own_slice hr5; have HR5 := Aside0.mk hr5; have HM5 := Aside0.mk hm5; have HROW5 := Aside0.mk (row_same HROW.out hs5 HNF.out); clear hr5 hm5 hs5)
          clear u1 hcl4 p1 z1
          go_wp2
          go_loopg [17] (sortI cc).length (fun kq v17 W => ∃ (k : Nat) (kv : Int), v17 = .int .i64 kv ∧ Aside0 (kv = (k : Int)) ∧ Aside0 (k ≤ (sortI cc).length ∧ (sortI cc).length - k ≤ kq) ∧ Aside0 (Below w5.heap.size w5 W))
          case atStart => exact ⟨0, 0, rfl, ⟨rfl⟩, ⟨by omega, by omega⟩, ⟨Below.refl _ _⟩⟩
          case round =>
            obtain ⟨k, kv, rfl, HKV, HK, HW⟩ := hrel
            by_cases hkl : k < (sortI cc).length
            · obtain ⟨a, ha⟩ : ∃ a, (sortI cc)[k]? = some a := ⟨_, List.getElem?_eq_getElem hkl⟩
              obtain ⟨g5, hA5, hg5, ca⟩ := int_at HR5.out rfl ha
              subst hA5
              have ca' : wr.cell? ⟨g5, k, none⟩ = some (.int .i64 a) := (HW.out.cell (p := ⟨g5, k, none⟩) hg5).trans ca
              have hai : ¬ a = id := fun e => HNI.out (e ▸ List.mem_of_getElem? ha)
              have t1 : decide (kv < ((sortI cc).length : Int)) = true := decide_eq_true (by have := HKV.out; omega)
              have t2 : (kv < ((sortI cc).length : Int)) = True := eq_true (by have := HKV.out; omega)
              have t3 : (0 : Int) ≤ kv := by have := HKV.out; omega
              have t4 : wrap64 (kv + 1) = kv + 1 := wrap_ok8 _ (by omega) (by have := HKV.out; have := HCL.out; omega)
              have t5 : (a == id) = false := by simpa using hai
              have t6 : kv.toNat = k := by have := HKV.out; omega
              have HKL := Aside0.mk hkl
              clear ca ha hg5 hai hkl
              go_wp2
              clear t6
              go_roundg (gk - 1)
              case measure => have := HK.out; have := HKL.out; omega
              case rel => exact ⟨k + 1, kv + 1, by rw [t4], ⟨by have := HKV.out; omega⟩, ⟨by have := HKL.out; omega, by have := HK.out; omega⟩, HW⟩
            · have t1 : decide (kv < ((sortI cc).length : Int)) = false := decide_eq_false (by have := HKV.out; omega)
              have t2 : (kv < ((sortI cc).length : Int)) = False := eq_false (by have := HKV.out; omega)
              have t4 : wrap64 (jv + 1) = jv + 1 := wrap_ok8 _ (by have := HJV.out; omega) (by have := HJV.out; have := HLT.out; have := HLEN.out; omega)
              clear hkl
              go_wp2
              have HMe := Aside0.mk (HM5.out.step HW.out)
              have HROWe := Aside0.mk (row_same HROW5.out (SameOn.of_below (S := fun _ => True) HW.out) (fun _ _ => trivial))
              go_roundg kj
              case measure => omega
              case rel => exact ⟨j + 1, jv + 1, G2, by rw [t4], ⟨by have := HJV.out; omega⟩, ⟨by have := HLT.out; omega, by have := HJ.out; omega⟩, HMe, HH2, HO2, HROWe⟩
        · have hje : j = o.links.length := by have := HJ.out; omega
          obtain ⟨oj, hoj, hol⟩ := HOJ.out
          have HOE : Aside0 (∃ oj, (1, oj) ∈ Gj.objs ∧ oj.links = []) := ⟨oj, hoj, by rw [hol, hje, List.drop_length]⟩
          have q1 : decide (jv < (o.links.length : Int)) = false := decide_eq_false (by have := HJV.out; omega)
          have q2 : (jv < (o.links.length : Int)) = False := eq_false (by have := HJV.out; omega)
          clear hoj hol hje hlt
          go_wp2
          clear q1 q2
          go_loopg [18] n (fun kq v18 W => ∃ (i : Nat) (iv : Int) (Gi : GS), v18 = .int .i64 iv ∧ Aside0 (iv = (i : Int)) ∧ Aside0 (i ≤ n ∧ n - i ≤ kq) ∧ Aside0 (Mine w W g F Gi) ∧ Aside0 (i < n → HeldP id (n - i) Gi ∧ ∃ oi, (1, oi) ∈ Gi.objs ∧ oi.links = []) ∧ Aside0 (i = n → Ok Gi ∧ Gi.objs.length = 1 ∧ holdG Gi id = some (10, Gi)))
          case atStart => exact ⟨0, 0, Gj, rfl, ⟨rfl⟩, ⟨by omega, by omega⟩, HMj, ⟨fun _ => ⟨HHj.out, HOE.out⟩⟩, ⟨fun h => by omega⟩⟩
          case round =>
            obtain ⟨i2, jv2, G5, rfl, HIV2, HI2, HM5, HA5, HB5⟩ := hrel
            by_cases hlt : i2 < n
            · obtain ⟨ko, rfl⟩ : ∃ ko, gk = ko + 1 := ⟨gk - 1, by have := HI2.out; omega⟩
              have HLT := Aside0.mk hlt
              obtain ⟨hh, oi, hoi, hol⟩ := HA5.out hlt
              obtain ⟨kk, hkk⟩ := kind_some hh
              have HKK := Aside0.mk hkk
              have q1 : decide (jv2 < nv) = true := decide_eq_true (by have := HIV2.out; have := HNV.out; omega)
              have q2 : (jv2 < nv) = True := eq_true (by have := HIV2.out; have := HNV.out; omega)
              have q3 : wrap64 (jv2 + 1) = jv2 + 1 := wrap_ok8 _ (by have := HIV2.out; omega) (by have := HIV2.out; omega)
              by_cases hlast : i2 + 1 < n
              · obtain ⟨G6, hf6, hh6, o6, ho6, hl6⟩ := free_step (n := n - (i2 + 1)) (by rw [show n - (i2 + 1) + 1 = n - i2 by omega]; exact hh) (by omega) (by omega) hoi
                have HF6 := Aside0.mk hf6
                have HH6 := Aside0.mk hh6
                have HO6 : Aside0 (∃ oi, (1, oi) ∈ G6.objs ∧ oi.links = []) := ⟨o6, ho6, hl6.trans hol⟩
                have q4 : decide (jv2 + 1 < nv) = true := decide_eq_true (by have := HIV2.out; have := HNV.out; omega)
                have q5 : (jv2 + 1 == nv) = false := by simpa using (by have := HIV2.out; have := HNV.out; omega : ¬ jv2 + 1 = nv)
                have HLA := Aside0.mk hlast
                clear hf6 hh6 ho6 hl6 hh hoi hol hkk hlt hlast
                go_upto_region 25 with (go_at_call 26; refine (kind_mine HM5.out id HWF.out HKK.out).mono ?_; rintro e_ w6 ⟨rfl, h0⟩; obtain rfl := h0.symm)
                go_upto_region 26 with (go_at_call 27; refine (free_mine HM5.out 300 id HWF.out HF6.out).mono ?_; rintro e_ w7 ⟨v7, rfl, hr7, hm7, -⟩; obtain ⟨A7, k7, rfl⟩ := own_slice hr7; have HM7 := Aside0.mk hm7; clear hr7 hm7)
                go_wp2
                go_loopg [23] 0 (fun kq v23 W => v23 = .int .i64 0 ∧ W = w7)
                case atStart => exact ⟨rfl, rfl⟩
                case round =>
                  obtain ⟨rfl, h0⟩ := hrel
                  obtain rfl := h0.symm
                  go_wp2
                  go_roundg ko
                  case measure => omega
                  case rel => exact ⟨i2 + 1, jv2 + 1, G6, by first | rfl | rw [q3], ⟨by have := HIV2.out; omega⟩, ⟨by have := HLT.out; omega, by have := HI2.out; omega⟩, HM7, ⟨fun _ => ⟨HH6.out, HO6.out⟩⟩, ⟨fun h => by have := HLA.out; omega⟩⟩
              · have hn1i : n - i2 = 1 := by omega
                rw [hn1i] at hh
                obtain ⟨c6, G6, hf6, hmem6, hlen6, hok6, hone6, hho6⟩ := free_last hh HID.out hoi hol
                have HF6 := Aside0.mk hf6
                have HOK6 := Aside0.mk (And.intro hok6 (And.intro hone6 hho6))
                have HMEM := Aside0.mk (mem_sortI.2 hmem6)
                have HCL6 : Aside0 ((sortI c6).length ≤ 128) := ⟨by rw [sortI_len]; exact hlen6⟩
                have q4 : decide (jv2 + 1 < nv) = false := decide_eq_false (by have := HIV2.out; have := HNV.out; omega)
                have q5 : (jv2 + 1 == nv) = true := by simpa using (by have := HIV2.out; have := HNV.out; omega : jv2 + 1 = nv)
                have HNI := Aside0.mk (by omega : i2 + 1 = n)
                obtain ⟨ws, hws⟩ : ∃ ws, ws = wr.heap.size := ⟨_, rfl⟩
                have HWS := Aside0.mk hws
                have HM5s := HM5
                clear hf6 hmem6 hlen6 hok6 hone6 hho6 hh hoi hol hkk hlt hlast hn1i hws
                go_upto_region 25 with (go_at_call 26; refine (kind_mine HM5.out id HWF.out HKK.out).mono ?_; rintro e_ w6 ⟨rfl, h0⟩; obtain rfl := h0.symm)
                go_upto_region 26 with (go_at_call 27; refine (free_mine HM5.out 300 id HWF.out HF6.out).mono ?_; rintro e_ w7 ⟨v7, rfl, hr7, hm7, -⟩; obtain ⟨A7, k7, rfl⟩ := own_slice hr7; have HM7 := Aside0.mk hm7; rw [← HWS.out] at hr7; have HR7 := Aside0.mk hr7; clear hr7 hm7)
                have HNF : Aside0 (∀ q, (Value.slice A7 (sortI c6).length k7).ownBlock = some q → ¬ F q) := ⟨fun q hq hf => by have := (HR7.out.lt q hq).1; have := (HM5s.out.lt hf).2; have := HWS.out; omega⟩
                go_wp2
                go_loopg [23] (sortI c6).length (fun kq v23 W => ∃ (k : Nat) (kv : Int) (xs : List Int), v23 = .int .i64 kv ∧ Aside0 (kv = (k : Int)) ∧ Aside0 (k ≤ (sortI c6).length ∧ (sortI c6).length - k ≤ kq) ∧ Aside0 (xs.length = (sortI c6).length) ∧
                  Aside0 (W.ownsRow ws 3 1 (.slice A7 (sortI c6).length k7) (sortI c6).length (xs.map (.int .i64))) ∧ Aside0 (SameOn (fun q => (Value.slice A7 (sortI c6).length k7).ownBlock ≠ some q) w7 W) ∧ Aside0 (xs[0]? = some id ∨ xs = sortI c6 ∧ id ∉ xs.take k))
                case atStart => exact ⟨0, 0, sortI c6, rfl, ⟨rfl⟩, ⟨by omega, by omega⟩, ⟨rfl⟩, HR7, ⟨SameOn.refl _ _⟩, ⟨.inr ⟨rfl, by simp⟩⟩⟩
                case round =>
                  obtain ⟨k, kv, xs, rfl, HKV, HK, HXL, HRX, HSX, HCX⟩ := hrel
                  have hpos : 0 < (sortI c6).length := List.length_pos_of_mem HMEM.out
                  obtain ⟨x0, hx0⟩ : ∃ x0, xs[0]? = some x0 := ⟨_, List.getElem?_eq_getElem (by have := HXL.out; omega)⟩
                  obtain ⟨g7, hA7, hg7, cx0⟩ := int_at HRX.out HXL.out.symm hx0
                  subst hA7
                  have cx0' : wr.cell? ⟨g7, 0, none⟩ = some (.int .i64 x0) := cx0
                  have fx0 : wr.frozen? ⟨g7, 0, none⟩ = false := own_frozen HRX.out rfl
                  have HX0 := Aside0.mk hx0
                  have HPOS := Aside0.mk hpos
                  have hle0 : (((sortI c6).length : Int) == 0) = false := by simpa using (by omega : ¬ ((sortI c6).length : Int) = 0)
                  have hle1 : ((0 : Int) < ((sortI c6).length : Int)) = True := eq_true (by omega)
                  have hle2 : (0 < (sortI c6).length) = True := eq_true hpos
                  have hle3 : (sortI c6 = []) = False := eq_false (fun e => by rw [e] at hpos; cases hpos)
                  clear cx0 hg7 hx0 hpos
                  by_cases hid0 : x0 = id
                  · subst hid0
                    have HM9 : Aside0 (Mine w wr g F G6) := ⟨HM7.out.same HSX.out (fun q hq e => HNF.out q e hq) (fun q hq e => by have := (HR7.out.lt q e).1; have := HWS.out; have := HM5s.out.below.size; omega)⟩
                    by_cases hkl : k < (sortI c6).length
                    · have t1 : decide (kv < ((sortI c6).length : Int)) = true := decide_eq_true (by have := HKV.out; omega)
                      clear hkl
                      go_wp2
                      go_roundg ko
                      case measure => omega
                      case rel => exact ⟨i2 + 1, jv2 + 1, G6, by first | rfl | rw [q3], ⟨by have := HIV2.out; omega⟩, ⟨by have := HLT.out; omega, by have := HI2.out; omega⟩, HM9, ⟨fun h => by have := HNI.out; omega⟩, ⟨fun _ => HOK6.out⟩⟩
                    · have t1 : decide (kv < ((sortI c6).length : Int)) = false := decide_eq_false (by have := HKV.out; omega)
                      clear hkl
                      go_wp2
                      go_roundg ko
                      case measure => omega
                      case rel => exact ⟨i2 + 1, jv2 + 1, G6, by first | rfl | rw [q3], ⟨by have := HIV2.out; omega⟩, ⟨by have := HLT.out; omega, by have := HI2.out; omega⟩, HM9, ⟨fun h => by have := HNI.out; omega⟩, ⟨fun _ => HOK6.out⟩⟩
                  · obtain ⟨hxs, hnt⟩ : xs = sortI c6 ∧ id ∉ xs.take k := by
                      rcases HCX.out with h | h
                      · rw [HX0.out] at h; exact absurd (Option.some.inj h) hid0
                      · exact h
                    have hkl : k < (sortI c6).length := by
                      apply Classical.byContradiction
                      intro hn
                      rw [List.take_of_length_le (by rw [hxs]; omega), hxs] at hnt
                      exact hnt HMEM.out
                    obtain ⟨a, ha⟩ : ∃ a, xs[k]? = some a := ⟨_, List.getElem?_eq_getElem (by rw [hxs]; exact hkl)⟩
                    obtain ⟨g8, hA8, -, cxa⟩ := int_at HRX.out HXL.out.symm ha
                    obtain rfl : g7 = g8 := by simpa using hA8
                    have t1 : decide (kv < ((sortI c6).length : Int)) = true := decide_eq_true (by have := HKV.out; omega)
                    have t2 : (kv < ((sortI c6).length : Int)) = True := eq_true (by have := HKV.out; omega)
                    have t3 : (0 : Int) ≤ kv := by have := HKV.out; omega
                    have t4 : wrap64 (kv + 1) = kv + 1 := wrap_ok8 _ (by omega) (by have := HKV.out; have := HCL6.out; omega)
                    have t5 : (x0 != id) = true := by simpa using hid0
                    have t6 : kv.toNat = k := by have := HKV.out; omega
                    have HKL := Aside0.mk hkl
                    have HXS := Aside0.mk (And.intro hxs hnt)
                    have HAA := Aside0.mk ha
                    clear hxs hnt hkl ha hA8 hid0
                    by_cases hai : a = id
                    · subst hai
                      go_wp2
                      clear t6
                      go_roundg (gk - 1)
                      case measure => have := HK.out; have := HKL.out; omega
                      case rel =>
                        obtain ⟨hst, hgr⟩ := HRX.out.stored 0 (.int .i64 a)
                        refine ⟨k + 1, kv + 1, xs.set 0 a, by rw [t4], ⟨by have := HKV.out; omega⟩, ⟨by have := HKL.out; omega, by have := HK.out; omega⟩, ⟨by rw [List.length_set]; exact HXL.out⟩, ⟨by rw [List.map_set]; exact hst⟩, ⟨HSX.out.trans ⟨hgr.size, fun q hq hl => hgr.block q hl (fun e => hq (show some g7 = some q from e.symm)), hgr.os, hgr.tape, hgr.output⟩⟩, ⟨.inl ?_⟩⟩
                        rw [List.getElem?_set_self (by have := HXL.out; have := HPOS.out; omega)]
                    · have t7 : (a == id) = false := by simpa using hai
                      have HAI := Aside0.mk hai
                      clear hai
                      go_wp2
                      clear t6
                      go_roundg (gk - 1)
                      case measure => have := HK.out; have := HKL.out; omega
                      case rel =>
                        refine ⟨k + 1, kv + 1, xs, by rw [t4], ⟨by have := HKV.out; omega⟩, ⟨by have := HKL.out; omega, by have := HK.out; omega⟩, HXL, HRX, HSX, ⟨.inr ⟨HXS.out.1, fun h => ?_⟩⟩⟩
                        obtain ⟨hk', e⟩ := List.getElem?_eq_some_iff.1 HAA.out
                        rw [List.take_succ_eq_append_getElem hk', List.mem_append, List.mem_singleton, e] at h
                        rcases h with h | h
                        · exact HXS.out.2 h
                        · exact HAI.out h.symm
            · have hin2 : i2 = n := by have := HI2.out; omega
              obtain ⟨hok7, hone7, hho7⟩ := HB5.out hin2
              have HHO7 := Aside0.mk hho7
              have HOK7 := Aside0.mk hok7
              have HONE7 := Aside0.mk hone7
              have q1 : decide (jv2 < nv) = false := decide_eq_false (by have := HIV2.out; have := HNV.out; omega)
              have q2 : (jv2 < nv) = False := eq_false (by have := HIV2.out; have := HNV.out; omega)
              have l1 : ((G5.objs.length : Int) == 1) = true := by simpa using (by omega : (G5.objs.length : Int) = 1)
              clear hok7 hone7 hho7 hin2 hlt
              go_upto_region 35 with (fail)
              go_wp2_with (first
                | (go_at_call 23; refine (nodes_mine HM5.out HOK7.out).mono ?_; rintro e_ w8 ⟨v8, rfl, hn8, hb8⟩; obtain ⟨sl8, -, hn8, -⟩ := hn8; obtain ⟨A8, k8, rfl⟩ := own_sl3 hn8; have HM8 := Aside0.mk (HM5.out.step hb8); clear hn8 hb8)
                | (go_at_call 25; refine (hold_mine HM8.out id HWF.out HHO7.out).mono ?_; rintro e_ w9 ⟨rfl, hm9, -⟩; have HM9 := Aside0.mk hm9; clear hm9)
                | (go_at_call 14; refine (lives_calls _ (HM9.out.lay HL.out)).mono ?_; rintro e_ w10 ⟨rfl, hb⟩; have HB10 := Aside0.mk hb; clear hb))
              go_ret
              exact ⟨rfl, HM9.out.below.trans (HB10.out.mono HM9.out.below.size)⟩
end
end Go.Proofs.YthifdofdoeaemaaGreatDoor.Wk
end
