-- Written by wip/tools/hprint.py: walks by the kit's print.py, hand-written texts laid between them. Lean checks all of it.
import Derived.Test.YtjbjofmcmjojlaaWk0
import Derived.Test.YtjbjofmcmjojlaaWk8
import Derived.Test.YtjbjofmcmjojlaaWk12
namespace Go.Proofs.Ytjbjofmcmjojlaa.Wk
open Go.RowKit Go.Proofs.YtjbjofmcmjojlaaW.PrintWords Go.Proofs.YtjbjofmcmjojlaaW.PrintLast Go.Proofs.YtjbjofmcmjojlaaW.PrintMore
attribute [local go_sem] max2_int min2_int max_two min_two max_three min_three max_four min_four   -- for this text's walks alone
set_option linter.unusedVariables false
set_option linter.unusedSimpArgs false

/-! ### space_each_1: function 42 -/
section
open Go.Proofs.YtjbjofmcmjojlaaQ
attribute [local go_sem] Oper.semAt_some
/-- a slice of whole numbers, as a value -/
def RdI (x : List Int) (v : Value) (W : World) : Prop := ∃ A c, v = .slice A x.length c ∧ x.length ≤ c ∧ (Kd.int .i64).C W A x.length x

set_option maxHeartbeats 1000000 in
theorem each1_points (Bs Bd : Nat) (A1 : Option Addr) (c1 : Nat) (pts : List (List Int)) (S0 : Nat → Prop) (w : World)
    (hS0 : ∀ k, S0 k → k < w.heap.size) (hf : ∀ W, SameOn S0 w W → W.cell? ⟨Bs, 0, none⟩ = some (.int .i64 2) ∧ W.cell? ⟨Bs, 1, none⟩ = some (.slice A1 pts.length c1) ∧ (Kd.slice 3 (Kd.int .i64)).C W A1 pts.length pts) :
    Hands Try.prog 42 #[.pointer (some ⟨Bs, 0, none⟩), .pointer (some ⟨Bd, 0, none⟩)] RdI pts S0 w := by
  intro l n J W hW hJ hY h0
  have HF := Aside0.mk hf
  have HY := Aside0.mk hY
  have HS0 := Aside0.mk hS0
  clear hf hY hS0
  obtain ⟨f0, f1, fC⟩ := HF.out _ hW
  have hm := Kd.C_max fC
  have FC := Aside0.mk fC
  clear fC
  have hu33 := Try.underlying33
  have hro : Fence.wide.round = none := rfl
  have hdp : Fence.wide.depth = none := rfl
  have hdi : ¬ (Fence.wide.depth.isSome = true) := by simp [Fence.wide]
  refine callsIn_of_wp Try.func42 rfl trivial ?_ rfl
  simp only [Try.ntmps42, List.size_toArray, List.length_cons, List.length_nil, Nat.reduceAdd, Nat.reduceSub, Array.replicate_succ, Array.replicate_zero, List.push_toArray, List.append_toArray, List.nil_append, List.cons_append]
  have HJ0 := Aside0.mk h0
  have HW0 := Aside0.mk hW
  clear h0 hW
  refine wpIn_wide.2 (Go.wp_scope_straight ((wpIn_wide (n := n)).1 ?_))
  gi_wp2
  gi_loopw [5, 18] (fun _ i wr => ∃ k : Nat, k ≤ pts.length ∧ i = .int .i64 k ∧ Aside0 (J S0 (pts.take k) wr) ∧ Aside0 (SameOn S0 w wr)) (fun _ i _ => pts.length - (intOf i).toNat)
  case atStart => exact ⟨0, Nat.zero_le _, rfl, HJ0, HW0⟩
  case round =>
    obtain ⟨k, hk, rfl, HJ, HS⟩ := hrel
    by_cases hlt : k < pts.length
    · obtain ⟨g0, g1, gC⟩ := HF.out _ HS.out
      obtain ⟨ad, A0, c0, e1, hx, hcc, hC⟩ := at_ints gC k hlt
      clear gC
      have HT : Aside0 (pts.take (k + 1) = pts.take k ++ [pts.getD k []]) := ⟨by rw [List.take_succ_eq_append_getElem hlt]; simp [List.getD_eq_getElem?_getD, hlt]⟩
      generalize pts.getD k [] = y at hx hcc hC HT
      obtain ⟨fn, tmps, assign, body, hy, hR⟩ := HY.out S0 (pts.take k) y _ wr HJ.out (fun _ h => h) (fun k h => Nat.lt_of_lt_of_le (HS0.out k h) HS.out.1) (by rw [← HT.out]; exact List.take_prefix _ _) ⟨A0, c0, rfl, hcc, hC⟩
      cases e1
      clear hC
      gi_wp2
      refine hR.mono ?_
      rintro e W3 ⟨rfl, hJ3, hs3⟩
      gi_wp2
      go_roundw
      case rel => exact ⟨k + 1, by omega, by simp, ⟨by rw [HT.out]; exact hJ3⟩, ⟨HS.out.trans hs3⟩⟩
      case measure => simp [intOf]; omega
    · obtain rfl : k = pts.length := by omega
      gi_wp2
      rw [Exit.noGoto_ret]
      exact bodyPost_ret (results_none rfl _ _ _) rfl ⟨⟨_, rfl⟩, S0, by simpa using HJ.out⟩
/-- A selection and an extent, as an iterator has them. -/
structure SelMem (W : World) (Bs Bd : Nat) (A0 : Option Addr) (c0 : Nat) (l0 : List Int) (a1_0 : Int) (A1_1 : Option Addr) (c1_1 : Nat) (l1_1 : List (List Int)) (A1_2 : Option Addr) (c1_2 : Nat) (l1_2 : List Int) (A1_3 : Option Addr) (c1_3 : Nat) (l1_3 : List Int) (A1_4 : Option Addr) (c1_4 : Nat) (l1_4 : List Int) (A1_5 : Option Addr) (c1_5 : Nat) (l1_5 : List Int) : Prop where
  cd : W.cell? ⟨Bd, 0, none⟩ = some (.slice A0 l0.length c0)
  k0 : W.cell? ⟨Bs, 0, none⟩ = some (.int .i64 a1_0)
  k1 : W.cell? ⟨Bs, 1, none⟩ = some (.slice A1_1 l1_1.length c1_1)
  k2 : W.cell? ⟨Bs, 2, none⟩ = some (.slice A1_2 l1_2.length c1_2)
  k3 : W.cell? ⟨Bs, 3, none⟩ = some (.slice A1_3 l1_3.length c1_3)
  k4 : W.cell? ⟨Bs, 4, none⟩ = some (.slice A1_4 l1_4.length c1_4)
  k5 : W.cell? ⟨Bs, 5, none⟩ = some (.slice A1_5 l1_5.length c1_5)
  r0 : (Kd.int .i64).C W A0 l0.length l0
  r1 : (Kd.slice 3 (Kd.int .i64)).C W A1_1 l1_1.length l1_1
  r2 : (Kd.int .i64).C W A1_2 l1_2.length l1_2
  r3 : (Kd.int .i64).C W A1_3 l1_3.length l1_3
  r4 : (Kd.int .i64).C W A1_4 l1_4.length l1_4
  r5 : (Kd.int .i64).C W A1_5 l1_5.length l1_5
  b0 : l0.length ≤ c0
  b1 : l1_1.length ≤ c1_1
  b2 : l1_2.length ≤ c1_2
  b3 : l1_3.length ≤ c1_3
  b4 : l1_4.length ≤ c1_4
  b5 : l1_5.length ≤ c1_5

def initAt (av : Nat → Nat → Int) (n k : Nat) : List Int := (List.range n).map fun d => if d < k then av d 0 else 0
theorem initAt_zero (av : Nat → Nat → Int) (n : Nat) : initAt av n 0 = List.replicate n 0 := by
  unfold initAt
  simp [List.map_const']
theorem initAt_succ (av : Nat → Nat → Int) (n k : Nat) (h : k < n) : (initAt av n k).set k (av k 0) = initAt av n (k + 1) := by
  unfold initAt
  apply List.ext_getElem
  · simp
  · intro i h1 h2
    simp only [List.getElem_set, List.getElem_map, List.getElem_range]
    by_cases e : k = i
    · subst e; simp
    · rw [if_neg e]
      by_cases h3 : i < k
      · rw [if_pos h3, if_pos (by omega)]
      · rw [if_neg h3, if_neg (by omega)]
theorem ints_zero (n : Nat) : ints (List.replicate n 0) = List.replicate n 0 := by simp [ints]
theorem initAt_all (av : Nat → Nat → Int) (n : Nat) : initAt av n n = tupAt av (List.replicate n 0) := by
  unfold initAt tupAt
  rw [List.length_replicate]
  apply List.map_congr_left
  intro d hd
  have : d < n := by simpa using hd
  rw [if_pos this]
  simp [List.getD_eq_getElem?_getD, this]
theorem rdOf_ints (s : List Nat) (e : Nat) : rdOf (0 : Int) (ints s) e = (s.getD e 0 : Nat) := by
  unfold rdOf ints
  rw [Int.toNat_natCast]
  by_cases h : e < s.length
  · simp [List.getD_eq_getElem?_getD, h]
  · simp [List.getD_eq_getElem?_getD, h]
theorem ints_set (s : List Nat) (e c : Nat) : (ints s).set e (c : Int) = ints (s.set e c) := by
  unfold ints
  rw [List.map_set]
  rfl
theorem tupAt_set (av : Nat → Nat → Int) (s : List Nat) (e c : Nat) : (tupAt av s).set e (av e c) = tupAt av (s.set e c) := by
  unfold tupAt
  apply List.ext_getElem
  · simp
  · intro i h1 h2
    simp only [List.length_set, List.length_map, List.length_range] at h1
    simp only [List.getElem_set, List.getElem_map, List.getElem_range]
    by_cases h : e = i
    · subst h
      rw [if_pos rfl]
      simp [List.getD_eq_getElem?_getD, h1]
    · rw [if_neg h]
      simp [List.getD_eq_getElem?_getD, List.getElem?_set_ne h]
/-- Two rows of so many noughts, made since W. -/
structure TwoRows (W wc : World) (n : Nat) (a b : Value) : Prop where
  out : ∃ bs ba : Nat, a = .slice (some ⟨bs, 0, none⟩) n n ∧ b = .slice (some ⟨ba, 0, none⟩) n n ∧ bs ≠ ba ∧ W.heap.size ≤ bs ∧ W.heap.size ≤ ba ∧ Below W.heap.size W wc ∧
    (Kd.int .i64).R 3 wc W.heap.size (fun k => k = bs) a (List.replicate n 0) ∧ (Kd.int .i64).R 3 wc W.heap.size (fun k => k = ba) b (List.replicate n 0)
theorem row_made (W : World) (base n : Nat) (hb : base ≤ W.heap.size) (hn : n ≤ 4) : (Kd.int .i64).R 3 (W.alloc (.cells (madeCells #[.int .i64 0] n) 3)) base (fun k => k = W.heap.size) (.slice (some ⟨W.heap.size, 0, none⟩) n n) (List.replicate n 0) :=
  Kd.R_of_own (own_made_of' (enc := Value.int .i64) (d := (0 : Int)) W base 3 n hb (by omega)) (fun k h => by simpa [Value.ownBlock, eq_comm] using h)
theorem two_made (W : World) (n : Nat) (hn : n ≤ 4) :
    Below W.heap.size W ((W.alloc (.cells (madeCells #[.int .i64 0] n) 3)).alloc (.cells (madeCells #[.int .i64 0] n) 3)).drew ∧
    (Kd.int .i64).R 3 ((W.alloc (.cells (madeCells #[.int .i64 0] n) 3)).alloc (.cells (madeCells #[.int .i64 0] n) 3)).drew W.heap.size (fun k => k = W.heap.size) (.slice (some ⟨W.heap.size, 0, none⟩) n n) (List.replicate n 0) ∧
    (Kd.int .i64).R 3 ((W.alloc (.cells (madeCells #[.int .i64 0] n) 3)).alloc (.cells (madeCells #[.int .i64 0] n) 3)).drew W.heap.size (fun k => k = W.heap.size + 1) (.slice (some ⟨W.heap.size + 1, 0, none⟩) n n) (List.replicate n 0) := by
  refine ⟨(((Below.refl _ W).alloc (Nat.le_refl _) _).alloc (by simp) _).drew, ?_, ?_⟩
  · exact Kd.R_drew (Kd.R_alloc (row_made W _ n (Nat.le_refl _) hn) _)
  · have := row_made (W.alloc (.cells (madeCells #[.int .i64 0] n) 3)) W.heap.size n (by simp) hn
    rw [World.size_alloc] at this
    exact Kd.R_drew this
theorem twoRows_a (W : World) (n : Nat) (hn : n ≤ 4) : TwoRows W ((W.alloc (.cells (madeCells #[.int .i64 0] n) 3)).alloc (.cells (madeCells #[.int .i64 0] n) 3)).drew n (.slice (some ⟨W.heap.size, 0, none⟩) n n) (.slice (some ⟨W.heap.size + 1, 0, none⟩) n n) :=
  ⟨_, _, rfl, rfl, by omega, by omega, by omega, two_made W n hn⟩
theorem twoRows_b (W : World) (n : Nat) (hn : n ≤ 4) : TwoRows W ((W.alloc (.cells (madeCells #[.int .i64 0] n) 3)).alloc (.cells (madeCells #[.int .i64 0] n) 3)).drew n (.slice (some ⟨W.heap.size + 1, 0, none⟩) n n) (.slice (some ⟨W.heap.size, 0, none⟩) n n) :=
  ⟨_, _, rfl, rfl, by omega, by omega, by omega, (two_made W n hn).1, (two_made W n hn).2.2, (two_made W n hn).2.1⟩
set_option maxHeartbeats 16000000 in
set_option maxRecDepth 100000 in
theorem each1_steps (Bs Bd : Nat) (A0 : Option Addr) (c0 : Nat) (l0 : List Int) (a1_0 : Int) (A1_1 : Option Addr) (c1_1 : Nat) (l1_1 : List (List Int)) (A1_2 : Option Addr) (c1_2 : Nat) (l1_2 : List Int) (A1_3 : Option Addr) (c1_3 : Nat) (l1_3 : List Int) (A1_4 : Option Addr) (c1_4 : Nat) (l1_4 : List Int) (A1_5 : Option Addr) (c1_5 : Nat) (l1_5 : List Int) (S0 : Nat → Prop) (w : World)
    (hf : ∀ W, SameOn S0 w W → SelMem W Bs Bd A0 c0 l0 a1_0 A1_1 c1_1 l1_1 A1_2 c1_2 l1_2 A1_3 c1_3 l1_3 A1_4 c1_4 l1_4 A1_5 c1_5 l1_5)
    (hS0 : ∀ k, S0 k → k < w.heap.size) (hk : a1_0 ≠ 2) (N : List Nat) (hN : N.length = l0.length) (hN4 : N.length ≤ 4) (av : Nat → Nat → Int)
    (hline : ∀ d, d < N.length → ∀ k, k ≤ N.getD d 0 → ∃ x, space_line.f l0 a1_0 l1_1 l1_2 l1_3 l1_4 l1_5 d k = some (x, decide (k < N.getD d 0)) ∧ (k < N.getD d 0 → x = av d k))
    (hpos : ∀ d, d < N.length → 0 < N.getD d 0) (hNb : ∀ d, N.getD d 0 ≤ 1048576) (L : List (List Nat)) (hL : Odo N (List.replicate N.length 0) L) :
    Hands Try.prog 42 #[.pointer (some ⟨Bs, 0, none⟩), .pointer (some ⟨Bd, 0, none⟩)] RdI (L.map (tupAt av)) S0 w := by
  intro l n J W hW hJ hY h0
  have HF := Aside0.mk hf
  have HY := Aside0.mk hY
  have HJ0 := Aside0.mk h0
  have HW0 := Aside0.mk hW
  have HLI := Aside0.mk hline
  have HOD := Aside0.mk hL
  have HNP := Aside0.mk hpos
  have HNB := Aside0.mk hNb
  have HS0 := Aside0.mk hS0
  have HNL := Aside0.mk hN
  clear hf hY h0 hW hline hL hS0 hN hpos hNb
  have hfw := HF.out _ HW0.out
  have f0 := hfw.k0
  have fd := hfw.cd
  clear hfw
  have hu33 := Try.underlying33
  have hro : Fence.wide.round = none := rfl
  have hdp : Fence.wide.depth = none := rfl
  have hmix : Try.prog.follows .mixedOrders = true := by kernel_rfl
  have fdA : ∀ o, (W.alloc o).cell? ⟨Bd, 0, none⟩ = some (.slice A0 l0.length c0) := fun o => pw_cell_below ((Below.refl _ W).alloc (Nat.le_refl _) o) fd
  have hk2 : (a1_0 == 2) = false := by simpa using hk
  have hlen4 : l0.length ≤ 4 := by rw [← HNL.out]; exact hN4
  have hmk : ∀ W : World, (Instr.makeSlice 22 (.int .i64 (l0.length : Int)) (.int .i64 (l0.length : Int))).run Try.prog W = .ok (.slice (some ⟨W.heap.size, 0, none⟩) l0.length l0.length) (W.alloc (.cells (madeCells #[.int .i64 0] l0.length) 3)) := by
    intro W
    have := print_make_int (P := Try.prog) 22 3 (.int .i64 0) 8 Try.underlying22 (by kernel_rfl) rfl (by omega) l0.length (by omega) (by omega) W
    simpa using this
  refine callsIn_of_wp Try.func42 rfl trivial ?_ rfl
  simp only [Try.ntmps42, List.size_toArray, List.length_cons, List.length_nil, Nat.reduceAdd, Nat.reduceSub, Array.replicate_succ, Array.replicate_zero, List.push_toArray, List.append_toArray, List.nil_append, List.cons_append]
  refine wpIn_wide.2 (Go.wp_scope_straight ((wpIn_wide (n := n)).1 ?_))
  gi_upto_region 6 with (fail)
  gi_cut [6, 7] from 27 (fun a b wc => TwoRows W wc l0.length a b)
  case first =>
    gi_region_with_o (fail)
    all_goals
      gi_wp2
      gi_meet
      first | exact twoRows_a _ _ hlen4 | exact twoRows_b _ _ hlen4
  case rest =>
    obtain ⟨bs, ba, rfl, rfl, hne, hbs, hba, hbel, hrs, hra⟩ := hcut.out
    clear hcut
    have hbsS : ¬ S0 bs := fun h => by have := HS0.out _ h; have := HW0.out.1; omega
    have hbaS : ¬ S0 ba := fun h => by have := HS0.out _ h; have := HW0.out.1; omega
    have HNS := Aside0.mk hbsS
    have HNA := Aside0.mk hbaS
    have HJ1 : Aside0 (J (fun k => S0 k ∨ (k = bs ∨ k = ba)) [] wc) := ⟨hJ.step _ _ _ _ (hJ.more _ (fun k => k = bs ∨ k = ba) _ _ HJ0.out (fun k h => by omega)) (SameOn.of_below hbel)⟩
    have HS1 : Aside0 (SameOn S0 w wc) := ⟨HW0.out.trans (SameOn.of_below hbel)⟩
    have HRS := Aside0.mk hrs
    have HRA : Aside0 ((Kd.int .i64).R 3 wc W.heap.size (fun k => k = ba) (.slice (some ⟨ba, 0, none⟩) l0.length l0.length) (initAt av l0.length 0)) := ⟨by rw [initAt_zero]; exact hra⟩
    have HB := Aside0.mk hbs
    clear hrs hra hbel hbsS hbaS f0 fd fdA HJ0 HW0
    have hcd := (HF.out _ HS1.out).cd
    gi_wp2
    clear hcd
    gi_loopw [35] (fun i wr => ∃ k : Nat, k ≤ l0.length ∧ i = .int .i64 k ∧ Aside0 (J (fun k => S0 k ∨ (k = bs ∨ k = ba)) [] wr) ∧ Aside0 (SameOn S0 w wr) ∧
      Aside0 ((Kd.int .i64).R 3 wr W.heap.size (fun k => k = bs) (.slice (some ⟨bs, 0, none⟩) l0.length l0.length) (List.replicate l0.length 0)) ∧
      Aside0 ((Kd.int .i64).R 3 wr W.heap.size (fun k => k = ba) (.slice (some ⟨ba, 0, none⟩) l0.length l0.length) (initAt av l0.length k)))
      (fun i _ => l0.length - (intOf i).toNat)
    case atStart => exact ⟨0, Nat.zero_le _, rfl, HJ1, HS1, HRS, HRA⟩
    case round =>
      clear HJ1 HS1 HRS HRA
      obtain ⟨k, hk, rfl, HJ1, HS1, HRS, HRA⟩ := hrel
      by_cases hlt : k < l0.length
      · obtain ⟨x, hx1, hx2⟩ := HLI.out k (by rw [HNL.out]; exact hlt) 0 (Nat.zero_le _)
        have hpos := HNP.out k (by rw [HNL.out]; exact hlt)
        obtain rfl := hx2 hpos
        have HX := Aside0.mk hx1
        clear hx1 hx2 hpos
        have HM := Aside0.mk (HF.out _ HS1.out)
        have hcd := HM.out.cd
        have hk0 := HM.out.k0
        have hk1 := HM.out.k1
        have hk2 := HM.out.k2
        have hk3 := HM.out.k3
        have hk4 := HM.out.k4
        have hk5 := HM.out.k5
        gi_wp2_with (refine ⟨trivial, ?_⟩; gi_at_call 43; refine (callsIn_wide.2 (space_line.calls A0 c0 l0 a1_0 A1_1 c1_1 l1_1 A1_2 c1_2 l1_2 A1_3 c1_3 l1_3 A1_4 c1_4 l1_4 A1_5 c1_5 l1_5 k 0 _ _ _ HM.out.r0 HM.out.b0 HM.out.r1 HM.out.b1 HM.out.r2 HM.out.b2 HM.out.r3 HM.out.b3 HM.out.r4 HM.out.b4 HM.out.r5 HM.out.b5 HX.out)).mono ?_; rintro e w' ⟨rfl, hb⟩; have hcA := Kd.R_celln (0 : Int) (Kd.R_below HRA.out hb) k (by omega) (by omega); simp only [Int.toNat_natCast] at hcA; obtain ⟨hcA1, hcA2⟩ := hcA)
        go_roundw
        case rel =>
          have hb1 := hb
          refine ⟨k + 1, by omega, by simp, ⟨hJ.step _ _ _ _ (hJ.step _ _ _ _ HJ1.out (SameOn.of_below hb1)) (SameOn.setCell _ _ _ (fun h => h.elim (fun h => h (.inr (.inr rfl))) HNA.out))⟩, ⟨(HS1.out.trans (SameOn.of_below hb1)).trans (SameOn.setCell _ _ _ HNA.out)⟩, ⟨Kd.R_far (Kd.R_below HRS.out hb1) (fun k h => ?_) _⟩, ⟨?_⟩⟩
          · subst h; exact hne
          · have := Kd.R_putn (Kd.R_below HRA.out hb1) k (av k 0)
            rw [Int.toNat_natCast, initAt_succ _ _ _ hlt] at this
            exact this
        case measure => simp [intOf]; omega
      · obtain rfl : k = l0.length := by omega
        have HRS2 : Aside0 ((Kd.int .i64).R 3 wr W.heap.size (fun k => k = bs) (.slice (some ⟨bs, 0, none⟩) l0.length l0.length) (ints (List.replicate l0.length 0))) := ⟨by rw [ints_zero]; exact HRS.out⟩
        have HRA2 : Aside0 ((Kd.int .i64).R 3 wr W.heap.size (fun k => k = ba) (.slice (some ⟨ba, 0, none⟩) l0.length l0.length) (tupAt av (List.replicate l0.length 0))) := ⟨by rw [← initAt_all]; exact HRA.out⟩
        have HOD2 : Aside0 (Odo N (List.replicate l0.length 0) L) := ⟨by rw [← HNL.out]; exact HOD.out⟩
        have HLT2 : Aside0 (∀ d, d < l0.length → (List.replicate l0.length 0).getD d 0 < N.getD d 0) := ⟨fun d hd => by
          have := HNP.out d (by rw [HNL.out]; exact hd)
          simpa [List.getD_eq_getElem?_getD, hd] using this⟩
        clear HRS HRA HOD hk
        gi_wp2
        refine wpIn_label ?_
        gi_wp2
        gi_loopg [9] L.length (fun g _ wq => ∃ (pre : List (List Nat)) (s : List Nat) (rest : List (List Nat)), Aside0 (L = pre ++ rest ∧ rest.length = g) ∧ Aside0 (Odo N s rest) ∧ Aside0 (s.length = l0.length) ∧ Aside0 (∀ d, d < l0.length → s.getD d 0 < N.getD d 0) ∧
          Aside0 (J (fun k => S0 k ∨ (k = bs ∨ k = ba)) (pre.map (tupAt av)) wq) ∧ Aside0 (SameOn S0 w wq) ∧
          Aside0 ((Kd.int .i64).R 3 wq W.heap.size (fun k => k = bs) (.slice (some ⟨bs, 0, none⟩) l0.length l0.length) (ints s)) ∧
          Aside0 ((Kd.int .i64).R 3 wq W.heap.size (fun k => k = ba) (.slice (some ⟨ba, 0, none⟩) l0.length l0.length) (tupAt av s)))
        case atStart => exact ⟨[], _, L, ⟨rfl, rfl⟩, HOD2, ⟨by simp⟩, HLT2, HJ1, HS1, HRS2, HRA2⟩
        case round =>
          clear HRS2 HRA2 HJ1 HS1 HOD2 HLT2
          obtain ⟨pre, s, rest, HL, HO, HSL, HLT, HJ1, HS1, HRS, HRA⟩ := hrel
          have HRD : Aside0 (RdI (tupAt av s) (.slice (some ⟨ba, 0, none⟩) l0.length l0.length) wr) := ⟨by
            obtain ⟨h1, h2, h3⟩ := Kd.R_reads' HRA.out
            exact ⟨_, _, by rw [← h1], by omega, h3⟩⟩
          have HSZ : Aside0 (∀ k, (S0 k ∨ (k = bs ∨ k = ba)) → k < wr.heap.size) := ⟨fun k h => by
            rcases h with h | h | h
            · exact Nat.lt_of_lt_of_le (HS0.out k h) HS1.out.1
            · exact Kd.R_lt HRS.out _ (by rw [h]; rfl)
            · exact Kd.R_lt HRA.out _ (by rw [h]; rfl)⟩
          obtain ⟨fn, tmps, assign, body, hy, hR⟩ := HY.out (fun k => S0 k ∨ (k = bs ∨ k = ba)) (pre.map (tupAt av)) (tupAt av s) _ wr HJ1.out (fun _ h => Or.inl h) HSZ.out (by have h1 := HL.out.1; cases HO.out <;> (rw [h1]; simp)) HRD.out
          clear HSZ
          gi_wp2
          refine hR.mono ?_
          rintro e W3 ⟨rfl, hJ3, hs3⟩
          have HJ3 : Aside0 (J (fun k => S0 k ∨ (k = bs ∨ k = ba)) ((pre ++ [s]).map (tupAt av)) W3) := ⟨by rw [List.map_append]; exact hJ3⟩
          have HS3 : Aside0 (SameOn S0 w W3) := ⟨HS1.out.trans (hs3.mono (fun k h => .inl h))⟩
          have HRS3 : Aside0 ((Kd.int .i64).R 3 W3 W.heap.size (fun k => k = bs) (.slice (some ⟨bs, 0, none⟩) l0.length l0.length) (ints s)) := ⟨Kd.R_step HRS.out (fun k hk hlt => hs3.2 k (.inr (.inl hk)) hlt)⟩
          have HRA3 : Aside0 ((Kd.int .i64).R 3 W3 W.heap.size (fun k => k = ba) (.slice (some ⟨ba, 0, none⟩) l0.length l0.length) (tupAt av s)) := ⟨Kd.R_step HRA.out (fun k hk hlt => hs3.2 k (.inr (.inr hk)) hlt)⟩
          clear HRS HRA HJ1 HS1 hJ3 hs3 hR hy HRD
          have hcd := (HF.out _ HS3.out).cd
          gi_wp2
          clear hcd
          gi_loopw [9] (fun v wq => ∃ (d : Int) (e : Nat) (s' : List Nat), v = .int .i64 d ∧ Aside0 (d = (e : Int) - 1) ∧ e ≤ l0.length ∧ Aside0 (odoNext N s l0.length = odoNext N s' e) ∧ Aside0 (s'.length = l0.length) ∧ Aside0 (∀ d, d < l0.length → s'.getD d 0 < N.getD d 0) ∧
            Aside0 (J (fun k => S0 k ∨ (k = bs ∨ k = ba)) ((pre ++ [s]).map (tupAt av)) wq) ∧ Aside0 (SameOn S0 w wq) ∧
            Aside0 ((Kd.int .i64).R 3 wq W.heap.size (fun k => k = bs) (.slice (some ⟨bs, 0, none⟩) l0.length l0.length) (ints s')) ∧
            Aside0 ((Kd.int .i64).R 3 wq W.heap.size (fun k => k = ba) (.slice (some ⟨ba, 0, none⟩) l0.length l0.length) (tupAt av s'))) (fun v _ => (intOf v + 1).toNat)
          case atStart => exact ⟨_, l0.length, s, rfl, ⟨rfl⟩, Nat.le_refl _, ⟨rfl⟩, HSL, HLT, HJ3, HS3, HRS3, HRA3⟩
          case round =>
            clear HRS3 HRA3 HJ3 HS3
            obtain ⟨d, e, s', rfl, HD, he, HE, HSL', HLT', HJ4, HS4, HRS, HRA⟩ := hrel
            cases e with
            | zero =>
              obtain rfl : d = -1 := by have := HD.out; omega
              gi_wp2
              rw [Exit.noGoto_ret]
              refine bodyPost_ret (results_none rfl _ _ _) rfl ⟨⟨_, rfl⟩, (fun k => S0 k ∨ (k = bs ∨ k = ba)), ?_⟩
              have h1 : odoNext N s N.length = none := by rw [HNL.out, HE.out]; rfl
              have h2 : rest = [s] := by
                cases HO.out with
                | last _ => rfl
                | more h _ => rw [h1] at h; cases h
              have h3 := HL.out.1
              rw [h2] at h3
              rw [h3]
              exact HJ4.out
            | succ e =>
              obtain rfl : d = (e : Int) := by have := HD.out; omega
              have hlt : e < l0.length := by omega
              have hcS := Kd.R_celln (0 : Int) HRS.out e (by omega) (by omega)
              simp only [Int.toNat_natCast] at hcS
              obtain ⟨hcS1, hcS2⟩ := hcS
              rw [rdOf_ints] at hcS1
              have HC := Aside0.mk (HLT'.out e hlt)
              have HP := Aside0.mk (ints_set s' e (s'.getD e 0 + 1))
              have HP0 := Aside0.mk (ints_set s' e 0)
              have HQ := Aside0.mk (tupAt_set av s' e (s'.getD e 0 + 1))
              have HQ0 := Aside0.mk (tupAt_set av s' e 0)
              have HD' : Aside0 (odoNext N s l0.length = if s'.getD e 0 + 1 < N.getD e 0 then some (s'.set e (s'.getD e 0 + 1)) else odoNext N (s'.set e 0) e) := ⟨by rw [HE.out]; rfl⟩
              generalize s'.getD e 0 = c at hcS1 HC HP HQ HD'
              have hcb : c ≤ 1048576 := Nat.le_trans (Nat.le_of_lt HC.out) (HNB.out e)
              have HRS2 : Aside0 ((Kd.int .i64).R 3 (wr.setCell ⟨bs, e, none⟩ (.int .i64 ((c : Int) + 1))) W.heap.size (fun k => k = bs) (.slice (some ⟨bs, 0, none⟩) l0.length l0.length) (ints (s'.set e (c + 1)))) := ⟨by
                have := Kd.R_putn HRS.out e ((c : Int) + 1)
                rw [Int.toNat_natCast] at this
                rw [← HP.out]
                exact this⟩
              have HRA2 : Aside0 ((Kd.int .i64).R 3 (wr.setCell ⟨bs, e, none⟩ (.int .i64 ((c : Int) + 1))) W.heap.size (fun k => k = ba) (.slice (some ⟨ba, 0, none⟩) l0.length l0.length) (tupAt av s')) := ⟨Kd.R_far HRA.out (fun k h => by subst h; exact fun h => hne h.symm) _⟩
              have HJ5 : Aside0 (J (fun k => S0 k ∨ (k = bs ∨ k = ba)) ((pre ++ [s]).map (tupAt av)) (wr.setCell ⟨bs, e, none⟩ (.int .i64 ((c : Int) + 1)))) := ⟨hJ.step _ _ _ _ HJ4.out (SameOn.setCell _ _ _ (fun h => h.elim (fun h => h (.inr (.inl rfl))) HNS.out))⟩
              have HS5 : Aside0 (SameOn S0 w (wr.setCell ⟨bs, e, none⟩ (.int .i64 ((c : Int) + 1)))) := ⟨HS4.out.trans (SameOn.setCell _ _ _ HNS.out)⟩
              gi_upto_region 17 with (fail)
              generalize wr.setCell ⟨bs, e, none⟩ (.int .i64 ((c : Int) + 1)) = w2 at HRS2 HRA2 HJ5 HS5 ⊢
              clear hcS1 hcS2 HRS HRA HJ4 HS4
              have HM := Aside0.mk (HF.out _ HS5.out)
              have hcd := HM.out.cd
              have hk0 := HM.out.k0
              have hk1 := HM.out.k1
              have hk2 := HM.out.k2
              have hk3 := HM.out.k3
              have hk4 := HM.out.k4
              have hk5 := HM.out.k5
              have hcS := Kd.R_celln (0 : Int) HRS2.out e (by omega) (by omega)
              simp only [Int.toNat_natCast] at hcS
              obtain ⟨hcS1, hcS2⟩ := hcS
              rw [rdOf_ints, show (s'.set e (c + 1)).getD e 0 = c + 1 from by simp [List.getD_eq_getElem?_getD, HSL'.out, hlt]] at hcS1
              have hcS3 : w2.cell? ⟨bs, e, none⟩ = some (.int .i64 ((c : Int) + 1)) := hcS1
              clear hcS1 hcS2
              by_cases hn : c + 1 < N.getD e 0
              · obtain ⟨x, hx1, hx2⟩ := HLI.out e (by rw [HNL.out]; exact hlt) (c + 1) (by omega)
                obtain rfl := hx2 hn
                rw [decide_eq_true hn] at hx1
                have HX : Aside0 (space_line.f l0 a1_0 l1_1 l1_2 l1_3 l1_4 l1_5 e ((c : Int) + 1) = some (av e (c + 1), true)) := ⟨hx1⟩
                clear hx1 hx2
                gi_cut [10, 11] from 65 (fun a b wq => a = .int .i64 (av e (c + 1)) ∧ b = .bool true ∧ Aside0 (Below w2.heap.size w2 wq))
                case first =>
                  gi_region_with_o (refine ⟨trivial, ?_⟩; gi_at_call 43; refine (callsIn_wide.2 (space_line.calls A0 c0 l0 a1_0 A1_1 c1_1 l1_1 A1_2 c1_2 l1_2 A1_3 c1_3 l1_3 A1_4 c1_4 l1_4 A1_5 c1_5 l1_5 e ((c : Int) + 1) _ _ _ (by first | exact HM.out.r0 | exact Kd.C_drew HM.out.r0) HM.out.b0 (by first | exact HM.out.r1 | exact Kd.C_drew HM.out.r1) HM.out.b1 (by first | exact HM.out.r2 | exact Kd.C_drew HM.out.r2) HM.out.b2 (by first | exact HM.out.r3 | exact Kd.C_drew HM.out.r3) HM.out.b3 (by first | exact HM.out.r4 | exact Kd.C_drew HM.out.r4) HM.out.b4 (by first | exact HM.out.r5 | exact Kd.C_drew HM.out.r5) HM.out.b5 HX.out)).mono ?_; rintro e_ w' ⟨rfl, hb⟩)
                  all_goals
                    gi_wp2
                    gi_meet
                    exact ⟨rfl, rfl, ⟨by first | exact hb | exact hb.drew | exact (Below.refl _ _).drew.trans hb | exact ((Below.refl _ _).drew.trans hb).drew⟩⟩
                case rest =>
                  obtain ⟨rfl, rfl, HBQ⟩ := hcut
                  clear hcd hk0 hk1 hk2 hk3 hk4 hk5 hcS3
                  have HN1 : Aside0 (odoNext N s N.length = some (s'.set e (c + 1))) := ⟨by rw [HNL.out, HD'.out, if_pos hn]⟩
                  have HRS3 : Aside0 ((Kd.int .i64).R 3 wc W.heap.size (fun k => k = bs) (.slice (some ⟨bs, 0, none⟩) l0.length l0.length) (ints (s'.set e (c + 1)))) := ⟨Kd.R_below HRS2.out HBQ.out⟩
                  have HRA3 : Aside0 ((Kd.int .i64).R 3 wc W.heap.size (fun k => k = ba) (.slice (some ⟨ba, 0, none⟩) l0.length l0.length) (tupAt av s')) := ⟨Kd.R_below HRA2.out HBQ.out⟩
                  have HJ6 : Aside0 (J (fun k => S0 k ∨ (k = bs ∨ k = ba)) ((pre ++ [s]).map (tupAt av)) wc) := ⟨hJ.step _ _ _ _ HJ5.out (SameOn.of_below HBQ.out)⟩
                  have HS6 : Aside0 (SameOn S0 w wc) := ⟨HS5.out.trans (SameOn.of_below HBQ.out)⟩
                  clear HRS2 HRA2 HJ5 HS5 HM HBQ HX
                  have hcA := Kd.R_celln (0 : Int) HRA3.out e (by omega) (by omega)
                  simp only [Int.toNat_natCast] at hcA
                  obtain ⟨hcA1, hcA2⟩ := hcA
                  obtain ⟨l', HR⟩ : ∃ l', Aside0 (rest = s :: l' ∧ Odo N (s'.set e (c + 1)) l') := by
                    cases HO.out with
                    | last h => rw [HN1.out] at h; cases h
                    | more h g =>
                      rw [HN1.out] at h
                      cases h
                      exact ⟨_, ⟨rfl, g⟩⟩
                  gi_wp2
                  gi_roundg l'.length
                  case measure =>
                    have h1 := HL.out.2
                    rw [HR.out.1, List.length_cons] at h1
                    omega
                  case rel =>
                    refine ⟨pre ++ [s], s'.set e (c + 1), l', ⟨by have h1 := HL.out.1; rw [HR.out.1] at h1; rw [h1]; simp, rfl⟩, ⟨HR.out.2⟩, ⟨by rw [List.length_set]; exact HSL'.out⟩, ⟨fun d hd => ?_⟩, ⟨hJ.step _ _ _ _ HJ6.out (SameOn.setCell _ _ _ (fun h => h.elim (fun h => h (.inr (.inr rfl))) HNA.out))⟩, ⟨HS6.out.trans (SameOn.setCell _ _ _ HNA.out)⟩, ⟨Kd.R_far HRS3.out (fun k h => by subst h; exact hne) _⟩, ⟨?_⟩⟩
                    · by_cases h : e = d
                      · subst h; simpa [List.getD_eq_getElem?_getD, HSL'.out, hlt] using hn
                      · have := HLT'.out d hd
                        simpa [List.getD_eq_getElem?_getD, List.getElem?_set_ne h] using this
                    · have := Kd.R_putn HRA3.out e (av e (c + 1))
                      rw [Int.toNat_natCast, HQ.out] at this
                      exact this
              · obtain ⟨x, hx1, _⟩ := HLI.out e (by rw [HNL.out]; exact hlt) (c + 1) (by have := HC.out; omega)
                rw [decide_eq_false hn] at hx1
                have HX : Aside0 (space_line.f l0 a1_0 l1_1 l1_2 l1_3 l1_4 l1_5 e ((c : Int) + 1) = some (x, false)) := ⟨hx1⟩
                clear hx1
                gi_cut [10, 11] from 65 (fun a b wq => a = .int .i64 x ∧ b = .bool false ∧ Aside0 (Below w2.heap.size w2 wq))
                case first =>
                  gi_region_with_o (refine ⟨trivial, ?_⟩; gi_at_call 43; refine (callsIn_wide.2 (space_line.calls A0 c0 l0 a1_0 A1_1 c1_1 l1_1 A1_2 c1_2 l1_2 A1_3 c1_3 l1_3 A1_4 c1_4 l1_4 A1_5 c1_5 l1_5 e ((c : Int) + 1) _ _ _ (by first | exact HM.out.r0 | exact Kd.C_drew HM.out.r0) HM.out.b0 (by first | exact HM.out.r1 | exact Kd.C_drew HM.out.r1) HM.out.b1 (by first | exact HM.out.r2 | exact Kd.C_drew HM.out.r2) HM.out.b2 (by first | exact HM.out.r3 | exact Kd.C_drew HM.out.r3) HM.out.b3 (by first | exact HM.out.r4 | exact Kd.C_drew HM.out.r4) HM.out.b4 (by first | exact HM.out.r5 | exact Kd.C_drew HM.out.r5) HM.out.b5 HX.out)).mono ?_; rintro e_ w' ⟨rfl, hb⟩)
                  all_goals
                    gi_wp2
                    gi_meet
                    exact ⟨rfl, rfl, ⟨by first | exact hb | exact hb.drew | exact (Below.refl _ _).drew.trans hb | exact ((Below.refl _ _).drew.trans hb).drew⟩⟩
                case rest =>
                  obtain ⟨rfl, rfl, HBQ⟩ := hcut
                  clear hcd hk0 hk1 hk2 hk3 hk4 hk5 hcS3
                  have HN1 : Aside0 (odoNext N s l0.length = odoNext N (s'.set e 0) e) := ⟨by rw [HD'.out, if_neg hn]⟩
                  have HRS3 : Aside0 ((Kd.int .i64).R 3 wc W.heap.size (fun k => k = bs) (.slice (some ⟨bs, 0, none⟩) l0.length l0.length) (ints (s'.set e (c + 1)))) := ⟨Kd.R_below HRS2.out HBQ.out⟩
                  have HRA3 : Aside0 ((Kd.int .i64).R 3 wc W.heap.size (fun k => k = ba) (.slice (some ⟨ba, 0, none⟩) l0.length l0.length) (tupAt av s')) := ⟨Kd.R_below HRA2.out HBQ.out⟩
                  have HJ6 : Aside0 (J (fun k => S0 k ∨ (k = bs ∨ k = ba)) ((pre ++ [s]).map (tupAt av)) wc) := ⟨hJ.step _ _ _ _ HJ5.out (SameOn.of_below HBQ.out)⟩
                  have HS6 : Aside0 (SameOn S0 w wc) := ⟨HS5.out.trans (SameOn.of_below HBQ.out)⟩
                  clear HRS2 HRA2 HJ5 HS5 HM HBQ HX
                  have hcA := Kd.R_celln (0 : Int) HRS3.out e (by omega) (by omega)
                  simp only [Int.toNat_natCast] at hcA
                  obtain ⟨hcA1, hcA2⟩ := hcA
                  have HRS4 : Aside0 ((Kd.int .i64).R 3 (wc.setCell ⟨bs, e, none⟩ (.int .i64 0)) W.heap.size (fun k => k = bs) (.slice (some ⟨bs, 0, none⟩) l0.length l0.length) (ints (s'.set e 0))) := ⟨by
                    have := Kd.R_putn HRS3.out e 0
                    rw [Int.toNat_natCast, ← HP.out, List.set_set] at this
                    rw [← HP0.out]
                    exact this⟩
                  have HRA4 : Aside0 ((Kd.int .i64).R 3 (wc.setCell ⟨bs, e, none⟩ (.int .i64 0)) W.heap.size (fun k => k = ba) (.slice (some ⟨ba, 0, none⟩) l0.length l0.length) (tupAt av s')) := ⟨Kd.R_far HRA3.out (fun k h => by subst h; exact fun h => hne h.symm) _⟩
                  have HJ7 : Aside0 (J (fun k => S0 k ∨ (k = bs ∨ k = ba)) ((pre ++ [s]).map (tupAt av)) (wc.setCell ⟨bs, e, none⟩ (.int .i64 0))) := ⟨hJ.step _ _ _ _ HJ6.out (SameOn.setCell _ _ _ (fun h => h.elim (fun h => h (.inr (.inl rfl))) HNS.out))⟩
                  have HS7 : Aside0 (SameOn S0 w (wc.setCell ⟨bs, e, none⟩ (.int .i64 0))) := ⟨HS6.out.trans (SameOn.setCell _ _ _ HNS.out)⟩
                  have HM := Aside0.mk (HF.out _ HS7.out)
                  obtain ⟨x0, hx1, hx2⟩ := HLI.out e (by rw [HNL.out]; exact hlt) 0 (Nat.zero_le _)
                  have hp0 := HNP.out e (by rw [HNL.out]; exact hlt)
                  obtain rfl := hx2 hp0
                  rw [decide_eq_true hp0] at hx1
                  have HX : Aside0 (space_line.f l0 a1_0 l1_1 l1_2 l1_3 l1_4 l1_5 e 0 = some (av e 0, true)) := ⟨hx1⟩
                  clear hx1 hx2
                  have hcd := HM.out.cd
                  have hk0 := HM.out.k0
                  have hk1 := HM.out.k1
                  have hk2 := HM.out.k2
                  have hk3 := HM.out.k3
                  have hk4 := HM.out.k4
                  have hk5 := HM.out.k5
                  gi_wp2_with (refine ⟨trivial, ?_⟩; gi_at_call 43; refine (callsIn_wide.2 (space_line.calls A0 c0 l0 a1_0 A1_1 c1_1 l1_1 A1_2 c1_2 l1_2 A1_3 c1_3 l1_3 A1_4 c1_4 l1_4 A1_5 c1_5 l1_5 e (0) _ _ _ (by first | exact HM.out.r0 | exact Kd.C_drew HM.out.r0) HM.out.b0 (by first | exact HM.out.r1 | exact Kd.C_drew HM.out.r1) HM.out.b1 (by first | exact HM.out.r2 | exact Kd.C_drew HM.out.r2) HM.out.b2 (by first | exact HM.out.r3 | exact Kd.C_drew HM.out.r3) HM.out.b3 (by first | exact HM.out.r4 | exact Kd.C_drew HM.out.r4) HM.out.b4 (by first | exact HM.out.r5 | exact Kd.C_drew HM.out.r5) HM.out.b5 HX.out)).mono ?_; rintro e_ w' ⟨rfl, hb⟩; have hcB := Kd.R_celln (0 : Int) (Kd.R_below HRA4.out hb) e (by omega) (by omega); simp only [Int.toNat_natCast] at hcB; obtain ⟨hcB1, hcB2⟩ := hcB)
                  go_roundw
                  case rel =>
                    refine ⟨(e : Int) - 1, e, s'.set e 0, rfl, ⟨rfl⟩, by omega, ⟨HN1.out⟩, ⟨by rw [List.length_set]; exact HSL'.out⟩, ⟨fun d hd => ?_⟩, ⟨hJ.step _ _ _ _ (hJ.step _ _ _ _ HJ7.out (SameOn.of_below hb)) (SameOn.setCell _ _ _ (fun h => h.elim (fun h => h (.inr (.inr rfl))) HNA.out))⟩, ⟨(HS7.out.trans (SameOn.of_below hb)).trans (SameOn.setCell _ _ _ HNA.out)⟩, ⟨Kd.R_far (Kd.R_below HRS4.out hb) (fun k h => by subst h; exact hne) _⟩, ⟨?_⟩⟩
                    · by_cases h : e = d
                      · subst h; simpa [List.getD_eq_getElem?_getD, HSL'.out, hlt] using hp0
                      · have := HLT'.out d hd
                        simpa [List.getD_eq_getElem?_getD, List.getElem?_set_ne h] using this
                    · have := Kd.R_putn (Kd.R_below HRA4.out hb) e (av e 0)
                      rw [Int.toNat_natCast, HQ0.out] at this
                      exact this
                  case measure => simp [intOf]
end


end Go.Proofs.Ytjbjofmcmjojlaa.Wk
