-- Texts that the row GridCounts leans on, joined by wip/tools/mkclaim.py: Wk22, Wk23, Wk24, Wk26, Wk27, Wk28, Wk29, Wk30, Wk31, Wk32, Wk33, Wk34, Wk35, Plain13, Plain13b, PureGridCounts
import Derived.Test.YtjbjofmcmjojlabCGridCounts1
section
namespace Go.Proofs.Ytjbjofmcmjojlab.Wk
open Go.RowKit Go.Proofs.YtjbjofmcmjojlabW.PrintWords Go.Proofs.YtjbjofmcmjojlabW.PrintLast Go.Proofs.YtjbjofmcmjojlabW.PrintMore
attribute [local go_sem] max2_int min2_int max_two min_two max_three min_three max_four min_four
set_option linter.unusedVariables false
set_option linter.unusedSimpArgs false
section
open Go.Proofs.YtjbjofmcmjojlabQ
def grid_cutStep (k : Nat) (D S : List Int) (z : Int) (H X : List Int) (n : Nat) (O : List Int) (q : List Int × Int) : Option (List Int) :=
  (grid_moved.f k q.1 S).bind fun mv => (grid_place.f k D mv).bind fun p1 => (grid_place.f k H q.1).bind fun p2 =>
  if 0 ≤ p1 * z ∧ 0 ≤ p2 * z ∧ 1 ≤ q.2 * z ∧ p1 * z + q.2 * z ≤ (X.length : Int) ∧ p2 * z + q.2 * z ≤ (n : Int) ∧ p1 * z + p2 * z + q.2 * z + (n : Int) ≤ 1000000 then some (laid O (p2 * z).toNat ((X.drop (p1 * z).toNat).take (q.2 * z).toNat)) else none
def grid_cutFold (k : Nat) (D S : List Int) (z : Int) (H X : List Int) (n : Nat) (O : List Int) (l : List (List Int × Int)) : Option (List Int) := l.foldlM (grid_cutStep k D S z H X n) O
def grid_Cut.f (k : Nat) (X : List Int) (z : Int) (D H c L : List Int) : Option (List Int × Int) :=
  (grid_fit.f D H).bind fun e1 => if e1 = 0 then ((grid_sized.f k z [D, H]).bind fun e2 => if e2 = 0 then ((space_Elements.f D).bind fun n => (space_Elements.f H).bind fun m =>
    (grid_right.f c D.length).bind fun b => if (X.length : Int) = wrap64 (n.1 * z) ∧ (L.length : Int) = z ∧ b = true then
      ((bytes_Repeat.f L m.1).bind fun O => (grid_Clip.f k D H c).bind fun p => if p.2.1.length ≤ 4 ∧ ∀ x ∈ p.2.1, 0 ≤ x ∧ x ≤ 1048576 then (grid_cutFold k D p.1 z H X O.length O (rowsOf p.2.1)).bind fun r => some (r, 0) else none)
    else some ([], 2)) else some ([], e2)) else some ([], e1)
theorem cutFold_length {k : Nat} {D S : List Int} {z : Int} {H X : List Int} {n : Nat} : ∀ (l : List (List Int × Int)) (O r : List Int), O.length = n → grid_cutFold k D S z H X n O l = some r → r.length = n
  | [], O, r, h, h1 => by cases h1; exact h
  | q :: l, O, r, h, h1 => by
    unfold grid_cutFold at h1
    rw [List.foldlM_cons] at h1
    obtain ⟨O', h2, h3⟩ := Option.bind_eq_some_iff.mp h1
    refine cutFold_length l O' r ?_ h3
    unfold grid_cutStep at h2
    obtain ⟨mv, _, h2⟩ := Option.bind_eq_some_iff.mp h2
    obtain ⟨p1, _, h2⟩ := Option.bind_eq_some_iff.mp h2
    obtain ⟨p2, _, h2⟩ := Option.bind_eq_some_iff.mp h2
    split at h2
    · cases h2
      rw [laid_length _ _ _ (by simp only [List.length_take, List.length_drop]; omega)]
      exact h
    · cases h2
set_option maxHeartbeats 4000000 in
set_option maxRecDepth 10000 in
theorem cut_each (k : Nat) (BD BS BZ BH BO BX : Nat) (AD : Option Addr) (cD : Nat) (D : List Int) (AS : Option Addr) (cS : Nat) (S : List Int) (z : Int) (AH : Option Addr) (cH : Nat) (H : List Int) (g n cO : Nat) (hcO : n ≤ cO) (AX : Option Addr) (cX : Nat) (X : List Int) (AP : Option Addr) (P O r : List Int) (W0 : World)
    (hM : ∀ aX, AX = some aX → Foot (grid_Cut1Mem BD AD cD D BS AS cS S BZ z BH AH cH H BO g n cO BX aX cX X) W0 (fun k => k < W0.heap.size ∧ k ≠ g)) (hX : X.length = 0 ∨ ∃ aX, AX = some aX)
    (hP : Foot (fun W => Kd.C (Kd.int .i64) W AP P.length P) W0 (fun k => k < W0.heap.size ∧ k ≠ g)) (hg : g < W0.heap.size) (hO : O.length = n) (hr : grid_cutFold k D S z H X n O (rowsOf P) = some r) :
    EachAt 41 #[.pointer (some ⟨BD, 0, none⟩), .pointer (some ⟨BS, 0, none⟩), .pointer (some ⟨BZ, 0, none⟩), .pointer (some ⟨BH, 0, none⟩), .pointer (some ⟨BO, 0, none⟩), .pointer (some ⟨BX, 0, none⟩)] W0.heap.size AP P (rowsOf P)
      (fun pre W => ∃ O', grid_cutFold k D S z H X n O pre = some O' ∧ Buf 5 W g n O' ∧ W0.grownBy W (some g)) where
  call := fun args w => enters_ Try.func41 (by kernel_rfl) rfl args w
  keep := by
    rintro pre W W' ⟨O', h1, h2, h3⟩ hs hb
    exact ⟨O', h1, h2.step (hb.block g hg), ⟨hb.os.trans h3.os, hb.tape.trans h3.tape, hb.output.trans h3.output, Nat.le_trans h3.size hb.size, fun k a b => (hb.block k a).trans (h3.block k a b)⟩⟩
  size := by
    rintro pre W ⟨O', h1, h2, h3⟩
    exact hP W (fun k hk hl => h3.block k hl (by intro e; injection e with e; exact hk.2 e))
  step := by
    rintro pre at_ m W A c hpre ⟨O', h1, h2, h3⟩ hC hc hs
    obtain ⟨post, hpost⟩ := hpre
    have hO' := cutFold_length _ _ _ hO h1
    unfold grid_cutFold at hr
    rw [← hpost, List.foldlM_append, List.foldlM_append] at hr
    obtain ⟨O2, h4, _⟩ := Option.bind_eq_some_iff.mp hr
    have h5 := h4
    obtain ⟨O3, h6, h7⟩ := Option.bind_eq_some_iff.mp h4
    have h1' : pre.foldlM (grid_cutStep k D S z H X n) O = some O' := h1
    rw [h1'] at h6
    cases h6
    rw [List.foldlM_cons] at h7
    obtain ⟨O3, h8, h9⟩ := Option.bind_eq_some_iff.mp h7
    cases h9
    have h8' := h8
    unfold grid_cutStep at h8
    obtain ⟨mv, m1, h8⟩ := Option.bind_eq_some_iff.mp h8
    obtain ⟨p1, m2, h8⟩ := Option.bind_eq_some_iff.mp h8
    obtain ⟨p2, m3, h8⟩ := Option.bind_eq_some_iff.mp h8
    split at h8
    case isFalse => cases h8
    case isTrue hq =>
    cases h8
    obtain ⟨q1, q2, q3, q4, q5, q6⟩ := hq
    obtain ⟨a, ha⟩ := Int.eq_ofNat_of_zero_le q1
    obtain ⟨b, hb⟩ := Int.eq_ofNat_of_zero_le q2
    obtain ⟨d, hd⟩ := Int.eq_ofNat_of_zero_le (a := m * z) (by simp only at q3; omega)
    simp only at q3 q4 q5 q6
    rw [ha, hd] at q4
    rw [hb, hd] at q5
    rw [ha, hb, hd] at q6
    rw [hd] at q3
    obtain ⟨aX, rfl⟩ : ∃ aX, AX = some aX := by
      rcases hX with hX | hX
      · omega
      · exact hX
    have hM' := (hM aX rfl).step (W1 := W) (fun k hk hl => h3.block k hl (by intro e; injection e with e; exact hk.2 e))
    refine (grid_Cut1.calls k k k BD AD cD D BS AS cS S BZ z BH AH cH H BO g n cO BX aX cX X A c at_ m mv p1 p2 a b d W0.heap.size O' (fun k => k < W0.heap.size ∧ k ≠ g) W hM' (fun k hk => hk.2) hg hs h2 hO' hC hc m1 m2 m3 ha hb hd (by omega) (by omega) (by omega) (by omega)).mono ?_
    rintro e W' ⟨rfl, b1, b2, b3⟩
    refine ⟨rfl, ⟨_, (by unfold grid_cutFold; rw [List.foldlM_append]; exact h5), ?_, ⟨b3.os.trans h3.os, b3.tape.trans h3.tape, b3.output.trans h3.output, Nat.le_trans h3.size b3.size, fun k x y => (b3.block k (Nat.lt_of_lt_of_le x h3.size) y).trans (h3.block k x y)⟩⟩, ⟨b3.size, fun k x y => b3.block k y (by intro e; injection e with e; omega)⟩⟩
    rw [hb, ha, hd]
    exact b1
set_option maxHeartbeats 4000000 in
set_option maxRecDepth 10000 in
theorem grid_Cut.calls (k : Nat) (A0 : Option Addr) (c0 : Nat) (X : List Int) (z : Int) (A2 : Option Addr) (c2 : Nat) (D : List Int) (A3 : Option Addr) (c3 : Nat) (H : List Int) (A4 : Option Addr) (c4 : Nat) (co : List Int) (A5 : Option Addr) (c5 : Nat) (L r : List Int) (e : Int) (w : World)
    (hr0 : Kd.C (Kd.int .u8) w A0 X.length X) (hc0 : X.length ≤ c0) (hr2 : Kd.C (Kd.int .i64) w A2 D.length D) (hc2 : D.length ≤ c2) (hr3 : Kd.C (Kd.int .i64) w A3 H.length H) (hc3 : H.length ≤ c3)
    (hr4 : Kd.C (Kd.int .i64) w A4 co.length co) (hc4 : co.length ≤ c4) (hr5 : Kd.C (Kd.int .u8) w A5 L.length L) (hc5 : L.length ≤ c5) (h : grid_Cut.f k X z D H co L = some (r, e)) :
    Calls Try.prog 17 #[.slice A0 X.length c0, .int .i64 z, .slice A2 D.length c2, .slice A3 H.length c3, .slice A4 co.length c4, .slice A5 L.length c5] w fun E w' => ∃ v, E = .returned (.tuple #[v, .int .i64 e]) ∧ OwnB 5 w' w.heap.size v r ∧ Below w.heap.size w w' := by
  unfold grid_Cut.f at h
  replace h := Option.bind_eq_some_iff.mp h
  obtain ⟨e1, hf1, h⟩ := h
  obtain ⟨hE, hB4⟩ := env4_boxes (z := z) 31 3 22 22 hr0 hc0 hr2 hc2 hr3 hc3 hr5 hc5
  have HE := Aside0.mk hE
  have HB4 := Aside0.mk hB4
  have HR4 := Aside0.mk (Kd.C_below hr4 hB4)
  have HC4 := Aside0.mk hc4
  have HF1 := Aside0.mk hf1
  have HH := Aside0.mk h
  have HU := Aside0.mk (Try.underlying22)
  clear hr0 hc0 hr2 hc2 hr3 hc3 hr5 hc5 hr4 hc4 hf1 h hE hB4
  go_enter Try.func17, Try.ntmps17
  go_upto_region 1 with (fail)
  generalize ((((w.alloc (.cells #[.slice A0 X.length c0] 31)).alloc (.cells #[.int .i64 z] 3)).alloc (.cells #[.slice A2 D.length c2] 22)).alloc (.cells #[.slice A3 H.length c3] 22)) = w4 at HE HB4 HR4 ⊢
  obtain ⟨b0, b1, b2, b3, -, -, -, -, -, -, -, -⟩ := HE.out
  go_upto_region 2 with (go_at_call 33; refine (grid_fit.calls A2 c2 D A3 c3 H e1 _ HE.out.r2 HE.out.l2 HE.out.r3 HE.out.l3 HF1.out).mono ?_; rintro e_ w' ⟨rfl, ⟨n1, rfl⟩⟩)
  have HE5 := Aside0.mk (HE.out.below (pw_below_drewN (Below.refl _ _) n1))
  have HB5 := Aside0.mk (pw_below_drewN HB4.out n1)
  have HR5 := Aside0.mk (Kd.C_drewN HR4.out n1)
  clear HE HB4 HR4 HF1 b0 b1 b2 b3
  generalize w4.drewN n1 = w5 at HE5 HB5 HR5 ⊢
  have h := HH.out
  clear HH
  by_cases h1 : e1 = 0
  case neg =>
    rw [if_neg h1] at h
    cases h
    have d1 : (e == 0) = false := by simpa using h1
    go_wp2
    go_ret2
    exact ⟨_, rfl, .inl ⟨rfl, _, _, rfl⟩, HB5.out⟩
  rw [if_pos h1] at h
  subst h1
  replace h := Option.bind_eq_some_iff.mp h
  obtain ⟨e2, hf2, h⟩ := h
  have HF2 := Aside0.mk hf2
  have HH := Aside0.mk h
  clear hf2 h
  obtain ⟨b0, b1, b2, b3, -, -, -, -, -, -, -, -⟩ := HE5.out
  go_upto_region 5 with (go_at_call 37; refine (grid_sized.calls k z (some ⟨w5.heap.size, 0, none⟩) 2 [D, H] e2 _ (two_rows (World.alloc_heap_new _ _) (Kd.C_alloc HE5.out.r2 _) HE5.out.l2 (Kd.C_alloc HE5.out.r3 _) HE5.out.l3) (Nat.le_refl _) HF2.out).mono ?_; rintro e_ w' ⟨rfl, ⟨n2, rfl⟩⟩)
  have hb6 := pw_below_drewN (below_alloc (Below.refl w5.heap.size w5) (.cells #[.slice A2 D.length c2, .slice A3 H.length c3] 22)) n2
  have HE6 := Aside0.mk (HE5.out.below hb6)
  have HB6 := Aside0.mk (pw_below_drewN (HB5.out.alloc HB5.out.size (.cells #[.slice A2 D.length c2, .slice A3 H.length c3] 22)) n2)
  have HR6 := Aside0.mk (Kd.C_below HR5.out hb6)
  clear HE5 HB5 HR5 HF2 b0 b1 b2 b3 hb6
  generalize (w5.alloc (.cells #[.slice A2 D.length c2, .slice A3 H.length c3] 22)).drewN n2 = w6 at HE6 HB6 HR6 ⊢
  have h := HH.out
  clear HH
  by_cases h1 : e2 = 0
  case neg =>
    rw [if_neg h1] at h
    cases h
    have d1 : (e == 0) = false := by simpa using h1
    go_wp2
    go_ret2
    exact ⟨_, rfl, .inl ⟨rfl, _, _, rfl⟩, HB6.out⟩
  rw [if_pos h1] at h
  subst h1
  replace h := Option.bind_eq_some_iff.mp h
  obtain ⟨⟨n, en⟩, hN, h⟩ := h
  replace h := Option.bind_eq_some_iff.mp h
  obtain ⟨⟨m, em⟩, hM, h⟩ := h
  replace h := Option.bind_eq_some_iff.mp h
  obtain ⟨b, hb, h⟩ := h
  have HN := Aside0.mk hN
  have HM := Aside0.mk hM
  have HRT := Aside0.mk hb
  have HH := Aside0.mk h
  clear hN hM hb h
  obtain ⟨b0, b1, b2, b3, -, -, -, -, -, -, -, -⟩ := HE6.out
  go_upto_region 8 with (go_at_call 38; refine (space_Elements.calls A2 c2 D n en _ HE6.out.r2 HE6.out.l2 HN.out).mono ?_; rintro e_ w' ⟨rfl, ⟨n3, rfl⟩⟩)
  have HE7 := Aside0.mk (HE6.out.below (pw_below_drewN (Below.refl _ _) n3))
  have HB7 := Aside0.mk (pw_below_drewN HB6.out n3)
  have HR7 := Aside0.mk (Kd.C_drewN HR6.out n3)
  clear HE6 HB6 HR6 HN b0 b1 b2 b3
  generalize w6.drewN n3 = w7 at HE7 HB7 HR7 ⊢
  obtain ⟨b0, b1, b2, b3, -, -, -, -, -, -, -, -⟩ := HE7.out
  go_upto_region 9 with (go_at_call 38; refine (space_Elements.calls A3 c3 H m em _ HE7.out.r3 HE7.out.l3 HM.out).mono ?_; rintro e_ w' ⟨rfl, ⟨n4, rfl⟩⟩)
  have HE8 := Aside0.mk (HE7.out.below (pw_below_drewN (Below.refl _ _) n4))
  have HB8 := Aside0.mk (pw_below_drewN HB7.out n4)
  have HR8 := Aside0.mk (Kd.C_drewN HR7.out n4)
  clear HE7 HB7 HR7 HM b0 b1 b2 b3
  generalize w7.drewN n4 = w8 at HE8 HB8 HR8 ⊢
  obtain ⟨b0, b1, b2, b3, -, -, -, -, -, -, -, -⟩ := HE8.out
  have h := HH.out
  clear HH
  try simp only at h
  by_cases x1 : (X.length : Int) = wrap64 (n * z)
  case neg =>
    rw [if_neg (fun q => x1 q.1)] at h
    cases h
    have d1 : ((X.length : Int) == wrap64 (n * z)) = false := by simpa using x1
    go_wp2
    go_ret2
    exact ⟨_, rfl, .inl ⟨rfl, _, _, rfl⟩, HB8.out⟩
  have d1 : ((X.length : Int) == wrap64 (n * z)) = true := by simpa using x1
  have q1 : ((X.length : Int) = wrap64 (n * z)) = True := eq_true x1
  have m1 : ((X.length : Int) != wrap64 (n * z)) = false := by simpa using x1
  by_cases x2 : (L.length : Int) = z
  case neg =>
    rw [if_neg (fun q => x2 q.2.1)] at h
    cases h
    have d2 : ((L.length : Int) == z) = false := by simpa using x2
    have q2 : ((L.length : Int) = z) = False := eq_false x2
    clear x1
    go_wp2
    go_ret2
    exact ⟨_, rfl, .inl ⟨rfl, _, _, rfl⟩, HB8.out⟩
  have d2 : ((L.length : Int) == z) = true := by simpa using x2
  have q2 : ((L.length : Int) = z) = True := eq_true x2
  have m2 : ((L.length : Int) != z) = false := by simpa using x2
  cases b with
  | false =>
    rw [if_neg (fun q => by cases q.2.2)] at h
    cases h
    clear x1 x2
    go_wp2_with (go_at_call 34; refine (grid_right.calls A4 c4 co (D.length : Int) false _ HR8.out HC4.out HRT.out).mono ?_; rintro e_ w' ⟨rfl, ⟨n5, rfl⟩⟩)
    go_ret2
    exact ⟨_, rfl, .inl ⟨rfl, _, _, rfl⟩, pw_below_drewN HB8.out n5⟩
  | true =>
  rw [if_pos ⟨x1, x2, rfl⟩] at h
  replace h := Option.bind_eq_some_iff.mp h
  obtain ⟨O, hO, h⟩ := h
  replace h := Option.bind_eq_some_iff.mp h
  obtain ⟨⟨S, P, ce⟩, hC, h⟩ := h
  try simp only at h
  split at h
  case isFalse => cases h
  case isTrue hq =>
  replace h := Option.bind_eq_some_iff.mp h
  obtain ⟨r', hr, h⟩ := h
  cases h
  have HO := Aside0.mk hO
  have HC := Aside0.mk hC
  have HQ := Aside0.mk hq
  have HFR := Aside0.mk hr
  clear hO hC hq hr x1 x2
  go_upto_region 11 with (go_at_call 34; refine (grid_right.calls A4 c4 co (D.length : Int) true _ HR8.out HC4.out HRT.out).mono ?_; rintro e_ w' ⟨rfl, ⟨n5, rfl⟩⟩)
  have HE9 := Aside0.mk (HE8.out.below (pw_below_drewN (Below.refl _ _) n5))
  have HB9 := Aside0.mk (pw_below_drewN HB8.out n5)
  have HR9 := Aside0.mk (Kd.C_drewN HR8.out n5)
  clear HE8 HB8 HR8 HRT b0 b1 b2 b3 d1 d2 q1 q2 m1 m2
  generalize w8.drewN n5 = w9 at HE9 HB9 HR9 ⊢
  go_upto_region 12 with (go_at_call 39; refine (grid_full.calls m A5 c5 L O _ HE9.out.r5 HE9.out.l5 HO.out).mono ?_; rintro e_ w10 ⟨g, rfl, hg, hbuf, hb⟩; have HG := Aside0.mk hg; have HBF := Aside0.mk hbuf; have HBL := Aside0.mk hb; clear hg hbuf hb)
  have hb11 : Below w9.heap.size w9 (w10.alloc (.cells #[.slice (some ⟨g, 0, none⟩) O.length O.length] 31)) := below_alloc HBL.out _
  have HE11 := Aside0.mk (HE9.out.below hb11)
  have HB11 := Aside0.mk (below_step HB9.out hb11)
  have HR11 := Aside0.mk (Kd.C_below HR9.out hb11)
  have HX11 := Aside0.mk (show (w10.alloc (.cells #[.slice (some ⟨g, 0, none⟩) O.length O.length] 31)).heap[w10.heap.size]? = some (.cells #[.slice (some ⟨g, 0, none⟩) O.length O.length] 31 (0, 0)) from World.alloc_heap_new _ _)
  have HBF11 := Aside0.mk (HBF.out.below (below_alloc (Below.refl _ _) (.cells #[.slice (some ⟨g, 0, none⟩) O.length O.length] 31)))
  have HG10 := Aside0.mk HBF.out.lt
  have HB911 := Aside0.mk hb11
  have HZ11 := Aside0.mk (show (w10.alloc (.cells #[.slice (some ⟨g, 0, none⟩) O.length O.length] 31)).heap.size = w10.heap.size + 1 from World.size_alloc _ _)
  clear hb11 HBF HBL HB9 HR9 HO
  generalize hw11 : w10.alloc (.cells #[.slice (some ⟨g, 0, none⟩) O.length O.length] 31) = w11 at HE11 HB11 HR11 HX11 HBF11 HB911 HZ11 ⊢
  clear hw11
  obtain ⟨b0, b1, b2, b3, -, -, -, -, -, -, -, -⟩ := HE11.out
  go_upto_region 13 with (go_at_call 11; refine (grid_Clip.calls k A2 c2 D A3 c3 H A4 c4 co S P ce _ HE11.out.r2 HE11.out.l2 HE11.out.r3 HE11.out.l3 HR11.out HC4.out HC.out).mono ?_; rintro e_ w12 ⟨v0, v1, rfl, hv0, hv1, hb⟩; obtain ⟨AS, cS, rfl⟩ := Kd.R_slice hv0; obtain ⟨AP, cP, rfl⟩ := Kd.R_slice hv1; have HV0 := Aside0.mk hv0; have HV1 := Aside0.mk hv1; have HBL := Aside0.mk hb; clear hv0 hv1 hb)
  clear b0 b1 b2 b3
  have hbA : Below w12.heap.size w12 (w12.alloc (.cells #[.slice AS S.length cS] 22)) := below_alloc (Below.refl _ _) _
  have hb1213 : Below w11.heap.size w11 (w12.alloc (.cells #[.slice AS S.length cS] 22)) := below_step HBL.out hbA
  have hsz := HBL.out.size
  have hlt : g < w10.heap.size := HG10.out
  have hz11 := HZ11.out
  have hz13 : (w12.alloc (.cells #[.slice AS S.length cS] 22)).heap.size = w12.heap.size + 1 := World.size_alloc _ _
  have HM13 := Aside0.mk (show ∀ aX, A0 = some aX → Foot (grid_Cut1Mem (w.heap.size + 1 + 1) A2 c2 D w12.heap.size AS cS S (w.heap.size + 1) z (w.heap.size + 1 + 1 + 1) A3 c3 H w10.heap.size g O.length O.length w.heap.size aX c0 X) (w12.alloc (.cells #[.slice AS S.length cS] 22)) (fun k => k < (w12.alloc (.cells #[.slice AS S.length cS] 22)).heap.size ∧ k ≠ g) from by
    rintro aX rfl W hW
    have hE := (((HE9.out.foot).step (W1 := w12.alloc (.cells #[.slice AS S.length cS] 22)) (fun k _ hk => (below_step HB911.out hb1213).block k hk)).mono (ok' := fun k => k < (w12.alloc (.cells #[.slice AS S.length cS] 22)).heap.size ∧ k ≠ g) (fun k hk => ⟨by have := HB911.out.size; omega, by have := HG.out; omega⟩)) W hW
    have hS := ((Kd.R_F (Kd.R_mono (ok' := fun k => w11.heap.size ≤ k ∧ k < w12.heap.size) (Kd.R_bound HV0.out) (fun k hk => ⟨hk.2.1, hk.2.2.1⟩))).step (W1 := w12.alloc (.cells #[.slice AS S.length cS] 22)) (fun k _ hk => hbA.block k hk)) W (fun k hk hl => hW k ⟨hl, by omega⟩ hl)
    exact ⟨hE.b2, (blk_cell ((hW w12.heap.size ⟨by omega, by omega⟩ (by omega)).trans (World.alloc_heap_new _ _)) 0).trans rfl, hE.b1, hE.b3,
      (blk_cell ((hW w10.heap.size ⟨by omega, by omega⟩ (by omega)).trans ((hb1213.block _ (by omega)).trans HX11.out)) 0).trans rfl, hE.b0, hE.r2, hE.l2, hS, (Kd.R_reads' HV0.out).2.1, hE.r3, hE.l3, Nat.le_refl _, hE.r0, hE.l0⟩)
  have HP13 := Aside0.mk (show Foot (fun W => Kd.C (Kd.int .i64) W AP P.length P) (w12.alloc (.cells #[.slice AS S.length cS] 22)) (fun k => k < (w12.alloc (.cells #[.slice AS S.length cS] 22)).heap.size ∧ k ≠ g) from by
    intro W hW
    exact ((Kd.R_F (Kd.R_mono (ok' := fun k => w11.heap.size ≤ k ∧ k < w12.heap.size) (Kd.R_bound HV1.out) (fun k hk => ⟨hk.2.1, hk.2.2.1⟩))).step (W1 := w12.alloc (.cells #[.slice AS S.length cS] 22)) (fun k _ hk => hbA.block k hk)) W (fun k hk hl => hW k ⟨hl, by omega⟩ hl))
  have HX13 := Aside0.mk ((hb1213.block _ (by omega)).trans HX11.out)
  have HBF13 := Aside0.mk (HBF11.out.step (hb1213.block g (by omega)))
  have HB13 := Aside0.mk (below_step HB11.out hb1213)
  have HG13 := Aside0.mk (show g < (w12.alloc (.cells #[.slice AS S.length cS] 22)).heap.size by omega)
  have HGB := Aside0.mk (show w.heap.size ≤ g from Nat.le_trans (Nat.le_of_lt (World.block_lt_of_cell? _ _ HE9.out.b0)) HG.out)
  have HCP := Aside0.mk (Kd.R_reads' HV1.out).2.1
  have HAX := Aside0.mk (u8_addr HE9.out.r0)
  have HNE := Aside0.mk (show ¬ some w10.heap.size = some g from fun e => by injection e with e; omega)
  clear hbA hb1213 hsz hlt hz11 hz13 HBL HV0 HV1 HE9 HE11 HB11 HR11 HX11 HBF11 HB911 HZ11 HG10
  generalize (w12.alloc (.cells #[.slice AS S.length cS] 22)) = w13 at HM13 HP13 HX13 HBF13 HB13 HG13 ⊢
  go_upto_region 14 with (go_at_call 40; refine (grid_rows 41 _ _ AP cP P _ (cut_each k (w.heap.size + 1 + 1) w12.heap.size (w.heap.size + 1) (w.heap.size + 1 + 1 + 1) w10.heap.size w.heap.size A2 c2 D AS cS S z A3 c3 H g O.length O.length (Nat.le_refl _) A0 c0 X AP P O r w13 HM13.out HAX.out HP13.out HG13.out rfl HFR.out) ⟨O, rfl, HBF13.out, ⟨rfl, rfl, rfl, Nat.le_refl _, fun _ _ _ => rfl⟩⟩ HQ.out.1 HQ.out.2 HCP.out).mono ?_; rintro e_ w14 ⟨rfl, ⟨O', h1, h2, h3⟩⟩; have H1 := Aside0.mk h1; have H2 := Aside0.mk h2; have H3 := Aside0.mk h3; clear h1 h2 h3)
  have e1 := HFR.out.symm.trans H1.out
  cases e1
  have hl := cutFold_length _ _ _ rfl HFR.out
  have bo : w14.cell? ⟨w10.heap.size, 0, none⟩ = some (.slice (some ⟨g, 0, none⟩) O.length O.length) := (blk_cell ((H3.out.block _ (World.block_lt_of_cell? w13 ⟨w10.heap.size, 0, none⟩ ((blk_cell HX13.out 0).trans rfl)) HNE.out).trans HX13.out) 0).trans rfl
  go_wp2
  go_ret2
  exact ⟨_, rfl, .inr ⟨g, _, by rw [hl]; rfl, by rw [hl]; exact Nat.le_refl _, HGB.out, by rw [hl]; exact H2.out⟩, HB13.out.grown H3.out HB13.out.size (fun k e => by cases e; exact HGB.out)⟩
end
end Go.Proofs.Ytjbjofmcmjojlab.Wk
end
section
namespace Go.Proofs.Ytjbjofmcmjojlab.Wk
open Go.RowKit Go.Proofs.YtjbjofmcmjojlabW.PrintWords Go.Proofs.YtjbjofmcmjojlabW.PrintLast Go.Proofs.YtjbjofmcmjojlabW.PrintMore
attribute [local go_sem] max2_int min2_int max_two min_two max_three min_three max_four min_four
set_option linter.unusedVariables false
set_option linter.unusedSimpArgs false
section
open Go.Proofs.YtjbjofmcmjojlabQ
structure grid_Resize1Mem (BD : Nat) (AD : Option Addr) (cD : Nat) (D : List Int) (BZ : Nat) (z : Int) (BH : Nat) (AH : Option Addr) (cH : Nat) (H : List Int) (BO : Nat) (g n cO : Nat) (BX : Nat) (aX : Addr) (cX : Nat) (X : List Int) (W : World) : Prop where
  bD : W.cell? ⟨BD, 0, none⟩ = some (.slice AD D.length cD)
  bZ : W.cell? ⟨BZ, 0, none⟩ = some (.int .i64 z)
  bH : W.cell? ⟨BH, 0, none⟩ = some (.slice AH H.length cH)
  bO : W.cell? ⟨BO, 0, none⟩ = some (.slice (some ⟨g, 0, none⟩) n cO)
  bX : W.cell? ⟨BX, 0, none⟩ = some (.slice (some aX) X.length cX)
  rD : (Kd.int .i64).C W AD D.length D
  lD : D.length ≤ cD
  rH : (Kd.int .i64).C W AH H.length H
  lH : H.length ≤ cH
  lO : n ≤ cO
  rX : (Kd.int .u8).C W (some aX) X.length X
  lX : X.length ≤ cX
theorem grid_Resize1.small (x : Nat) (h : x ≤ 1000000) : wrap64 (x : Int) = (x : Int) := by unfold wrap64; omega
theorem grid_Resize1.big (a b c n : Nat) (h : a + b + c + n ≤ 1000000) : a ≤ 1000000 ∧ b ≤ 1000000 ∧ c ≤ 1000000 ∧ a + c ≤ 1000000 := by omega
theorem grid_Resize1.arith (a b c n hi cX L cO : Nat) (h0 : n ≤ cO) (h1 : a + c ≤ L) (h2 : b + c ≤ n) (h3 : 1 ≤ c) (h4 : L ≤ cX) (h5 : a + c = hi) : (b : Int) ≤ (n : Int) ∧ (a : Int) ≤ (hi : Int) ∧ (hi : Int) ≤ (cX : Int) ∧ ((cO = b) = False) ∧ (n : Int) ≤ (cO : Int) ∧ ((cX = a) = False) := ⟨by omega, by omega, by omega, eq_false (by omega), by omega, eq_false (by omega)⟩
set_option maxHeartbeats 4000000 in
set_option maxRecDepth 10000 in
theorem grid_Resize1.calls (k0 k1 : Nat) (BD : Nat) (AD : Option Addr) (cD : Nat) (D : List Int) (BZ : Nat) (z : Int) (BH : Nat) (AH : Option Addr) (cH : Nat) (H : List Int) (BO : Nat) (g n cO : Nat) (BX : Nat) (aX : Addr) (cX : Nat) (X : List Int) (A0 : Option Addr) (c0 : Nat) (at_ : List Int) (m : Int) (p0 p1 : Int) (a b c base : Nat) (O : List Int) (ok : Nat → Prop) (W : World)
    (hM : Foot (grid_Resize1Mem BD AD cD D BZ z BH AH cH H BO g n cO BX aX cX X) W ok) (hok : ∀ k, ok k → k ≠ g) (hg : g < base) (hbase : base ≤ W.heap.size) (hB : Buf 5 W g n O) (hO : O.length = n)
    (hr0 : (Kd.int .i64).C W A0 at_.length at_) (hc0 : at_.length ≤ c0) (h0 : grid_place.f k0 D at_ = some p0) (h1 : grid_place.f k1 H at_ = some p1)
    (ha : p0 * z = (a : Int)) (hb : p1 * z = (b : Int)) (hc : m * z = (c : Int)) (hc1 : 1 ≤ c) (hac : a + c ≤ X.length) (hbc : b + c ≤ n) (hbig : a + b + c + n ≤ 1000000) :
    Calls Try.prog 49 (#[.slice A0 at_.length c0, .int .i64 m] ++ #[.pointer (some ⟨BD, 0, none⟩), .pointer (some ⟨BZ, 0, none⟩), .pointer (some ⟨BH, 0, none⟩), .pointer (some ⟨BO, 0, none⟩), .pointer (some ⟨BX, 0, none⟩)]) W fun e W' => e = .returned (.tuple #[]) ∧ Buf 5 W' g n (laid O b ((X.drop a).take c)) ∧ Foot (grid_Resize1Mem BD AD cD D BZ z BH AH cH H BO g n cO BX aX cX X) W' ok ∧ W.grownBy W' (some g) := by
  have HM := Aside0.mk hM
  have HB := Aside0.mk hB
  have HR := Aside0.mk hr0
  have HC := Aside0.mk hc0
  have H0 := Aside0.mk h0
  have H1 := Aside0.mk h1
  have AR := Aside0.mk (show a + c ≤ X.length ∧ b + c ≤ n ∧ 1 ≤ c ∧ a + b + c + n ≤ 1000000 ∧ g < base ∧ base ≤ W.heap.size from ⟨hac, hbc, hc1, hbig, hg, hbase⟩)
  have HOK := Aside0.mk hok
  have HO := Aside0.mk hO
  have BIG := grid_Resize1.big a b c n hbig
  have wz : ∀ x : Nat, x ≤ 1000000 → wrap64 (x : Int) = (x : Int) := grid_Resize1.small
  have wa : wrap64 (p0 * z) = (a : Int) := by rw [ha]; exact wz a BIG.1
  have wb : wrap64 (p1 * z) = (b : Int) := by rw [hb]; exact wz b BIG.2.1
  have wc : wrap64 (m * z) = (c : Int) := by rw [hc]; exact wz c BIG.2.2.1
  obtain ⟨hi, hhi⟩ : ∃ hi, a + c = hi := ⟨_, rfl⟩
  have wd : wrap64 ((a : Int) + (c : Int)) = (hi : Int) := by rw [← hhi]; exact wz (a + c) BIG.2.2.2
  have hmem := hM.now
  have hcX := hmem.lX
  have i1 : (0 : Int) ≤ (b : Int) := Int.natCast_nonneg _
  have i3 : (0 : Int) ≤ (a : Int) := Int.natCast_nonneg _
  obtain ⟨i2, i4, i5, e1, i6, e2⟩ := grid_Resize1.arith a b c n hi cX _ cO hmem.lO hac hbc hc1 hcX hhi
  have HHI := Aside0.mk hhi
  have HCX := Aside0.mk hcX
  have HMEM := Aside0.mk hmem
  clear hM hok hg hbase hB hO hr0 hc0 h0 h1 ha hb hc hc1 hac hbc hbig hhi hcX hmem
  show Calls Try.prog 49 #[.slice A0 at_.length c0, .int .i64 m, .pointer (some ⟨BD, 0, none⟩), .pointer (some ⟨BZ, 0, none⟩), .pointer (some ⟨BH, 0, none⟩), .pointer (some ⟨BO, 0, none⟩), .pointer (some ⟨BX, 0, none⟩)] W _
  go_enter Try.func49, Try.ntmps49
  go_upto_region 0 with (fail)
  refine start_ (n := 12) (S := fun W' => Below W.heap.size W W' ∧ grid_Resize1Mem BD AD cD D BZ z BH AH cH H BO g n cO BX aX cX X W') (ds := []) #[false, false, false, false, false, false, false, false, false, false, false, false] (by kernel_rfl) rfl rfl ⟨below_drew (Below.refl _ _), HM.out W.drew (fun _ _ _ => rfl)⟩ (fun hHeld => ?_)
  refine pure_ (i := 1) (N := some 12) (v := ?_) (a' := ?_) #[false, true, false, false, false, false, false, false, false, false, false, false] rfl rfl (by kernel_rfl) (fun _ _ _ h => h) (Or.inl ⟨by rfl, ?_⟩) ?_ ?_
  rotate_left
  · intro w'
    go_simp
    with_reducible rfl
  rotate_left
  · simp only [Act.put, List.setIfInBounds_toArray, List.set_cons_zero, List.set_cons_succ, i64_w, i32_w]
    rfl
  refine pure_ (i := 6) (N := some 17) (v := ?_) (a' := ?_) #[false, true, false, false, false, false, true, false, false, false, false, false] rfl rfl (by kernel_rfl) (fun _ _ _ h => h) (Or.inl ⟨by rfl, ?_⟩) ?_ ?_
  rotate_left
  · intro w'
    go_simp
    with_reducible rfl
  rotate_left
  · simp only [Act.put, List.setIfInBounds_toArray, List.set_cons_zero, List.set_cons_succ, i64_w, i32_w]
    rfl
  refine take_ (i := 0) (N := some 11) (v := ?_) (a' := ?_) #[true, true, false, false, false, false, true, false, false, false, false, false] rfl rfl (by kernel_rfl) (fun _ _ _ h => h) (Or.inl ⟨by rfl, ?_⟩) hHeld ?_ ?_
  rotate_left
  · rintro w' ⟨hB_, ⟨bD_, bZ_, bH_, bO_, bX_, rD_, lD_, rH_, lH_, lO_, rX_, lX_⟩⟩
    go_simp
    with_reducible rfl
  rotate_left
  · simp only [Act.put, List.setIfInBounds_toArray, List.set_cons_zero, List.set_cons_succ, i64_w, i32_w]
    rfl
  refine take_ (i := 3) (N := some 14) (v := ?_) (a' := ?_) #[true, true, false, true, false, false, true, false, false, false, false, false] rfl rfl (by kernel_rfl) (fun _ _ _ h => h) (Or.inl ⟨by rfl, ?_⟩) hHeld ?_ ?_
  rotate_left
  · rintro w' ⟨hB_, ⟨bD_, bZ_, bH_, bO_, bX_, rD_, lD_, rH_, lH_, lO_, rX_, lX_⟩⟩
    go_simp
    with_reducible rfl
  rotate_left
  · simp only [Act.put, List.setIfInBounds_toArray, List.set_cons_zero, List.set_cons_succ, i64_w, i32_w]
    rfl
  refine take_ (i := 5) (N := some 16) (v := ?_) (a' := ?_) #[true, true, false, true, false, true, true, false, false, false, false, false] rfl rfl (by kernel_rfl) (fun _ _ _ h => h) (Or.inl ⟨by rfl, ?_⟩) hHeld ?_ ?_
  rotate_left
  · rintro w' ⟨hB_, ⟨bD_, bZ_, bH_, bO_, bX_, rD_, lD_, rH_, lH_, lO_, rX_, lX_⟩⟩
    go_simp
    with_reducible rfl
  rotate_left
  · simp only [Act.put, List.setIfInBounds_toArray, List.set_cons_zero, List.set_cons_succ, i64_w, i32_w]
    rfl
  refine take_ (i := 8) (N := some 19) (v := ?_) (a' := ?_) #[true, true, false, true, false, true, true, false, true, false, false, false] rfl rfl (by kernel_rfl) (fun _ _ _ h => h) (Or.inl ⟨by rfl, ?_⟩) hHeld ?_ ?_
  rotate_left
  · rintro w' ⟨hB_, ⟨bD_, bZ_, bH_, bO_, bX_, rD_, lD_, rH_, lH_, lO_, rX_, lX_⟩⟩
    go_simp
    with_reducible rfl
  rotate_left
  · simp only [Act.put, List.setIfInBounds_toArray, List.set_cons_zero, List.set_cons_succ, i64_w, i32_w]
    rfl
  refine one_ (i := 2) (N := some 13) #[true, true, true, true, false, true, true, false, true, false, false, false] rfl rfl (by kernel_rfl) (by decide) (fun K hK => ?_)
  skip
  refine goes_ Try.func42 (by kernel_rfl) rfl #[.slice AD D.length cD, .slice A0 at_.length c0] (by rfl) rfl rfl (by (simp only [List.map_toArray, List.map_cons, List.map_nil]); rfl) ?_
  refine (grid_place.calls k0 AD cD D A0 c0 at_ p0 _ (hHeld.2.rD) (hHeld.2.lD) (Kd.C_below HR.out hHeld.1) (HC.out) H0.out).mono ?_
  rintro e_ W0 ⟨rfl, ⟨q0, rfl⟩⟩
  have hBn := pw_below_drewN hHeld.1 q0
  refine ⟨_, rfl, ?_⟩
  refine hK.out _ _ ⟨hBn, HM.out _ (fun k _ hlt => hBn.block k hlt)⟩ (fun hHeld => ?_)
  clear hK K hBn
  refine norm_ (a' := ?_) ?_ ?_
  rotate_left
  · show Act.put _ (some 13) _ = _
    simp only [Act.put, List.setIfInBounds_toArray, List.set_cons_zero, List.set_cons_succ, i64_w, i32_w]
    rfl
  refine pure_ (i := 4) (N := some 15) (v := ?_) (a' := ?_) #[true, true, true, true, true, true, true, false, true, false, false, false] rfl rfl (by kernel_rfl) (fun _ _ _ h => h) (Or.inl ⟨by rfl, ?_⟩) ?_ ?_
  rotate_left
  · intro w'
    go_simp
    with_reducible rfl
  rotate_left
  · simp only [Act.put, List.setIfInBounds_toArray, List.set_cons_zero, List.set_cons_succ, i64_w, i32_w]
    rfl
  refine one_ (i := 7) (N := some 18) #[true, true, true, true, true, true, true, true, true, false, false, false] rfl rfl (by kernel_rfl) (by decide) (fun K hK => ?_)
  skip
  refine goes_ Try.func42 (by kernel_rfl) rfl #[.slice AH H.length cH, .slice A0 at_.length c0] (by rfl) rfl rfl (by (simp only [List.map_toArray, List.map_cons, List.map_nil]); rfl) ?_
  refine (grid_place.calls k1 AH cH H A0 c0 at_ p1 _ (hHeld.2.rH) (hHeld.2.lH) (Kd.C_below HR.out hHeld.1) (HC.out) H1.out).mono ?_
  rintro e_ W1 ⟨rfl, ⟨q1, rfl⟩⟩
  have hBn := pw_below_drewN hHeld.1 q1
  refine ⟨_, rfl, ?_⟩
  refine hK.out _ _ ⟨hBn, HM.out _ (fun k _ hlt => hBn.block k hlt)⟩ (fun hHeld => ?_)
  clear hK K hBn
  refine norm_ (a' := ?_) ?_ ?_
  rotate_left
  · show Act.put _ (some 18) _ = _
    simp only [Act.put, List.setIfInBounds_toArray, List.set_cons_zero, List.set_cons_succ, i64_w, i32_w]
    rfl
  refine pure_ (i := 9) (N := some 20) (v := ?_) (a' := ?_) #[true, true, true, true, true, true, true, true, true, true, false, false] rfl rfl (by kernel_rfl) (fun _ _ _ h => h) (Or.inl ⟨by rfl, ?_⟩) ?_ ?_
  rotate_left
  · intro w'
    go_simp
    with_reducible rfl
  rotate_left
  · simp only [Act.put, List.setIfInBounds_toArray, List.set_cons_zero, List.set_cons_succ, i64_w, i32_w]
    rfl
  refine pure_ (i := 10) (N := some 9) (v := ?_) (a' := ?_) #[true, true, true, true, true, true, true, true, true, true, true, false] rfl rfl (by kernel_rfl) (fun _ _ _ h => h) (Or.inl ⟨by rfl, ?_⟩) ?_ ?_
  rotate_left
  · intro w'
    go_simp
    with_reducible rfl
  rotate_left
  · simp only [Act.put, List.setIfInBounds_toArray, List.set_cons_zero, List.set_cons_succ, i64_w, i32_w]
    rfl
  refine pure_ (i := 11) (N := some 10) (v := ?_) (a' := ?_) #[true, true, true, true, true, true, true, true, true, true, true, true] rfl rfl (by kernel_rfl) (fun _ _ _ h => h) (Or.inl ⟨by rfl, ?_⟩) ?_ ?_
  rotate_left
  · intro w'
    go_simp
    with_reducible rfl
  rotate_left
  · simp only [Act.put, List.setIfInBounds_toArray, List.set_cons_zero, List.set_cons_succ, i64_w, i32_w]
    rfl
  refine done_ (by kernel_rfl) ?_
  go_wp2
  have HB0 := Aside0.mk hHeld.1
  clear hHeld
  generalize hWr : (((W.drew).drewN q0).drewN q1) = Wr at HB0 ⊢
  have BF : Buf 5 Wr.drew g n O := HB.out.step (HB0.out.block g (by have := AR.out; omega))
  have MEM : grid_Resize1Mem BD AD cD D BZ z BH AH cH H BO g n cO BX aX cX X Wr := HM.out _ (fun k _ hlt => HB0.out.block k hlt)
  have HMW := Aside0.mk MEM
  have hlen : ((X.drop a).take c).length = c := by have := AR.out; simp; omega
  obtain ⟨W2, hr2, B2, hg2⟩ := BF.copy (P := Try.prog) (t := 31) (t' := 31) (ty := 3) (o := b) (dLen := n - b) (dCap := cO - b) (m := hi - a) (c := cX - a) (ad := aX.add a) (ys := (X.drop a).take c) Try.underlying31 (by kernel_rfl) (by have := AR.out; have := HO.out; omega) (by rw [hlen]; have := AR.out; have := HHI.out; omega) (by rw [hlen]; have := AR.out; omega)
    (fun j hj => by
      rw [hlen] at hj
      obtain ⟨_, _, hx⟩ := Kd.reads_of_C (d := (0 : Int)) HMW.out.rX
      obtain ⟨ad, e, hx⟩ := hx (by have := AR.out; omega)
      cases e
      have h2 := hx (a + j) (by have := AR.out; omega)
      rw [show (aX.add a).add j = aX.add (a + j) from Addr.add_add _ _ _]
      refine Eq.trans h2 ?_
      simp [List.getD_eq_getElem?_getD, List.getElem?_take, hj])
  rw [hlen] at hr2
  have B2' := Aside0.mk B2
  have G2 := Aside0.mk hg2
  clear BF MEM hlen B2 hg2
  have FS := Aside0.mk (show Foot (grid_Resize1Mem BD AD cD D BZ z BH AH cH H BO g n cO BX aX cX X) W2 ok from HM.out.step (fun k hk hlt => (G2.out.block k (Nat.lt_of_lt_of_le hlt HB0.out.size) (by have := HOK.out k hk; simpa using this)).trans (HB0.out.block k hlt)))
  refine start_ (n := 12) (S := fun W' => grid_Resize1Mem BD AD cD D BZ z BH AH cH H BO g n cO BX aX cX X W') (ds := []) #[false, false, false, false, false, false, false, false, false, false, false, false] (by kernel_rfl) rfl rfl (HM.out _ (fun k _ hlt => HB0.out.block k hlt)) (fun hHeld => ?_)
  refine take_ (i := 0) (N := some 21) (v := ?_) (a' := ?_) #[true, false, false, false, false, false, false, false, false, false, false, false] rfl rfl (by kernel_rfl) (fun _ _ _ h => h) (Or.inl ⟨by rfl, ?_⟩) hHeld ?_ ?_
  rotate_left
  · rintro w' ⟨bD_, bZ_, bH_, bO_, bX_, rD_, lD_, rH_, lH_, lO_, rX_, lX_⟩
    go_simp
    with_reducible rfl
  rotate_left
  · simp only [Act.put, List.setIfInBounds_toArray, List.set_cons_zero, List.set_cons_succ, i64_w, i32_w]
    rfl
  refine pure_ (i := 1) (N := some 22) (v := ?_) (a' := ?_) #[true, true, false, false, false, false, false, false, false, false, false, false] rfl rfl (by kernel_rfl) (fun _ _ _ h => h) (Or.inl ⟨by rfl, ?_⟩) ?_ ?_
  rotate_left
  · intro w'
    go_simp
    with_reducible rfl
  rotate_left
  · simp only [Act.put, List.setIfInBounds_toArray, List.set_cons_zero, List.set_cons_succ, i64_w, i32_w]
    rfl
  refine take_ (i := 3) (N := some 24) (v := ?_) (a' := ?_) #[true, true, false, true, false, false, false, false, false, false, false, false] rfl rfl (by kernel_rfl) (fun _ _ _ h => h) (Or.inl ⟨by rfl, ?_⟩) hHeld ?_ ?_
  rotate_left
  · rintro w' ⟨bD_, bZ_, bH_, bO_, bX_, rD_, lD_, rH_, lH_, lO_, rX_, lX_⟩
    go_simp
    with_reducible rfl
  rotate_left
  · simp only [Act.put, List.setIfInBounds_toArray, List.set_cons_zero, List.set_cons_succ, i64_w, i32_w]
    rfl
  refine pure_ (i := 4) (N := some 25) (v := ?_) (a' := ?_) #[true, true, false, true, true, false, false, false, false, false, false, false] rfl rfl (by kernel_rfl) (fun _ _ _ h => h) (Or.inl ⟨by rfl, ?_⟩) ?_ ?_
  rotate_left
  · intro w'
    go_simp
    with_reducible rfl
  rotate_left
  · simp only [Act.put, List.setIfInBounds_toArray, List.set_cons_zero, List.set_cons_succ, i64_w, i32_w]
    rfl
  refine pure_ (i := 5) (N := some 26) (v := ?_) (a' := ?_) #[true, true, false, true, true, true, false, false, false, false, false, false] rfl rfl (by kernel_rfl) (fun _ _ _ h => h) (Or.inl ⟨by rfl, ?_⟩) ?_ ?_
  rotate_left
  · intro w'
    go_simp
    with_reducible rfl
  rotate_left
  · simp only [Act.put, List.setIfInBounds_toArray, List.set_cons_zero, List.set_cons_succ, i64_w, i32_w]
    rfl
  refine pure_ (i := 6) (N := some 27) (v := ?_) (a' := ?_) #[true, true, false, true, true, true, true, false, false, false, false, false] rfl rfl (by kernel_rfl) (fun _ _ _ h => h) (Or.inl ⟨by rfl, ?_⟩) ?_ ?_
  rotate_left
  · intro w'
    go_simp
    with_reducible rfl
  rotate_left
  · simp only [Act.put, List.setIfInBounds_toArray, List.set_cons_zero, List.set_cons_succ, i64_w, i32_w]
    rfl
  refine take_ (i := 7) (N := some 28) (v := ?_) (a' := ?_) #[true, true, false, true, true, true, true, true, false, false, false, false] rfl rfl (by kernel_rfl) (fun _ _ _ h => h) (Or.inl ⟨by rfl, ?_⟩) hHeld ?_ ?_
  rotate_left
  · rintro w' ⟨bD_, bZ_, bH_, bO_, bX_, rD_, lD_, rH_, lH_, lO_, rX_, lX_⟩
    go_simp
    with_reducible rfl
  rotate_left
  · simp only [Act.put, List.setIfInBounds_toArray, List.set_cons_zero, List.set_cons_succ, i64_w, i32_w]
    rfl
  refine pure_ (i := 8) (N := some 29) (v := ?_) (a' := ?_) #[true, true, false, true, true, true, true, true, true, false, false, false] rfl rfl (by kernel_rfl) (fun _ _ _ h => h) (Or.inl ⟨by rfl, ?_⟩) ?_ ?_
  rotate_left
  · intro w'
    go_simp
    with_reducible rfl
  rotate_left
  · simp only [Act.put, List.setIfInBounds_toArray, List.set_cons_zero, List.set_cons_succ, i64_w, i32_w]
    rfl
  refine pure_ (i := 9) (N := some 30) (v := ?_) (a' := ?_) #[true, true, false, true, true, true, true, true, true, true, false, false] rfl rfl (by kernel_rfl) (fun _ _ _ h => h) (Or.inl ⟨by rfl, ?_⟩) ?_ ?_
  rotate_left
  · intro w'
    go_simp
    with_reducible rfl
  rotate_left
  · simp only [Act.put, List.setIfInBounds_toArray, List.set_cons_zero, List.set_cons_succ, i64_w, i32_w]
    rfl
  refine pure_ (i := 2) (N := some 23) (v := ?_) (a' := ?_) #[true, true, true, true, true, true, true, true, true, true, false, false] rfl rfl (by kernel_rfl) (fun _ _ _ h => h) (Or.inl ⟨by rfl, ?_⟩) ?_ ?_
  rotate_left
  · intro w'
    go_simp
    with_reducible rfl
  rotate_left
  · simp only [Act.put, List.setIfInBounds_toArray, List.set_cons_zero, List.set_cons_succ, i64_w, i32_w]
    rfl
  refine pure_ (i := 10) (N := some 31) (v := ?_) (a' := ?_) #[true, true, true, true, true, true, true, true, true, true, true, false] rfl rfl (by kernel_rfl) (fun _ _ _ h => h) (Or.inl ⟨by rfl, ?_⟩) ?_ ?_
  rotate_left
  · intro w'
    go_simp
    with_reducible rfl
  rotate_left
  · simp only [Act.put, List.setIfInBounds_toArray, List.set_cons_zero, List.set_cons_succ, i64_w, i32_w]
    rfl
  refine one_ (i := 11) (N := some 32) #[true, true, true, true, true, true, true, true, true, true, true, true] rfl rfl (by kernel_rfl) (by decide) (fun K hK => ?_)
  refine step_copy rfl (.tmp 23) (.tmp 31) 31 31 rfl (.slice (some ⟨g, b, none⟩) (n - b) (cO - b)) (.slice (some (aX.add a)) (hi - a) (cX - a)) rfl rfl hr2 ?_
  refine hK.out _ _ FS.out.now (fun _ => ?_)
  clear hK K hr2
  refine done_ (by kernel_rfl) ?_
  first | go_end0 | (refine bodyPost_ret (results_none rfl _ _ _) rfl ?_)
  exact ⟨rfl, B2'.out, FS.out, ⟨G2.out.os.trans HB0.out.os, G2.out.tape.trans HB0.out.tape, G2.out.output.trans HB0.out.output, Nat.le_trans HB0.out.size G2.out.size, fun k h1 h2 => (G2.out.block k (Nat.lt_of_lt_of_le h1 HB0.out.size) h2).trans (HB0.out.block k h1)⟩⟩
end
end Go.Proofs.Ytjbjofmcmjojlab.Wk
end
section
namespace Go.Proofs.Ytjbjofmcmjojlab.Wk
open Go.RowKit Go.Proofs.YtjbjofmcmjojlabW.PrintWords Go.Proofs.YtjbjofmcmjojlabW.PrintLast Go.Proofs.YtjbjofmcmjojlabW.PrintMore
attribute [local go_sem] max2_int min2_int max_two min_two max_three min_three max_four min_four
set_option linter.unusedVariables false
set_option linter.unusedSimpArgs false
section
open Go.Proofs.YtjbjofmcmjojlabQ
def grid_resStep (k : Nat) (D : List Int) (z : Int) (H X : List Int) (n : Nat) (O : List Int) (q : List Int × Int) : Option (List Int) :=
  (grid_place.f k D q.1).bind fun p1 => (grid_place.f k H q.1).bind fun p2 =>
  if 0 ≤ p1 * z ∧ 0 ≤ p2 * z ∧ 1 ≤ q.2 * z ∧ p1 * z + q.2 * z ≤ (X.length : Int) ∧ p2 * z + q.2 * z ≤ (n : Int) ∧ p1 * z + p2 * z + q.2 * z + (n : Int) ≤ 1000000 then some (laid O (p2 * z).toNat ((X.drop (p1 * z).toNat).take (q.2 * z).toNat)) else none
def grid_resFold (k : Nat) (D : List Int) (z : Int) (H X : List Int) (n : Nat) (O : List Int) (l : List (List Int × Int)) : Option (List Int) := l.foldlM (grid_resStep k D z H X n) O
def grid_both (D H : List Int) : List Int := List.zipWith min D H
def grid_Resize.f (k : Nat) (X : List Int) (z : Int) (D H L : List Int) : Option (List Int × Int) :=
  (space_Elements.f D).bind fun n => if n.2 = 0 then ((space_Elements.f H).bind fun m => if m.2 = 0 then (if D.length = H.length then ((grid_sized.f k z [D, H]).bind fun e2 => if e2 = 0 then
    (if (X.length : Int) = wrap64 (n.1 * z) ∧ (L.length : Int) = z then
      ((bytes_Repeat.f L m.1).bind fun O => (slices_Clone_int_int.f D).bind fun _ => if (grid_both D H).length ≤ 4 ∧ ∀ x ∈ grid_both D H, 0 ≤ x ∧ x ≤ 1048576 then (grid_resFold k D z H X O.length O (rowsOf (grid_both D H))).bind fun r => some (r, 0) else none)
    else some ([], 2)) else some ([], e2)) else some ([], 2)) else some ([], m.2)) else some ([], n.2)
theorem resFold_length {k : Nat} {D : List Int} {z : Int} {H X : List Int} {n : Nat} : ∀ (l : List (List Int × Int)) (O r : List Int), O.length = n → grid_resFold k D z H X n O l = some r → r.length = n
  | [], O, r, h, h1 => by cases h1; exact h
  | q :: l, O, r, h, h1 => by
    unfold grid_resFold at h1
    rw [List.foldlM_cons] at h1
    obtain ⟨O', h2, h3⟩ := Option.bind_eq_some_iff.mp h1
    refine resFold_length l O' r ?_ h3
    unfold grid_resStep at h2
    obtain ⟨p1, _, h2⟩ := Option.bind_eq_some_iff.mp h2
    obtain ⟨p2, _, h2⟩ := Option.bind_eq_some_iff.mp h2
    split at h2
    · cases h2
      rw [laid_length _ _ _ (by simp only [List.length_take, List.length_drop]; omega)]
      exact h
    · cases h2
set_option maxHeartbeats 4000000 in
set_option maxRecDepth 10000 in
theorem res_each (k : Nat) (BD BZ BH BO BX : Nat) (AD : Option Addr) (cD : Nat) (D : List Int) (z : Int) (AH : Option Addr) (cH : Nat) (H : List Int) (g n cO : Nat) (hcO : n ≤ cO) (AX : Option Addr) (cX : Nat) (X : List Int) (AP : Option Addr) (P O r : List Int) (W0 : World)
    (hM : ∀ aX, AX = some aX → Foot (grid_Resize1Mem BD AD cD D BZ z BH AH cH H BO g n cO BX aX cX X) W0 (fun k => k < W0.heap.size ∧ k ≠ g)) (hX : X.length = 0 ∨ ∃ aX, AX = some aX)
    (hP : Foot (fun W => Kd.C (Kd.int .i64) W AP P.length P) W0 (fun k => k < W0.heap.size ∧ k ≠ g)) (hg : g < W0.heap.size) (hO : O.length = n) (hr : grid_resFold k D z H X n O (rowsOf P) = some r) :
    EachAt 49 #[.pointer (some ⟨BD, 0, none⟩), .pointer (some ⟨BZ, 0, none⟩), .pointer (some ⟨BH, 0, none⟩), .pointer (some ⟨BO, 0, none⟩), .pointer (some ⟨BX, 0, none⟩)] W0.heap.size AP P (rowsOf P)
      (fun pre W => ∃ O', grid_resFold k D z H X n O pre = some O' ∧ Buf 5 W g n O' ∧ W0.grownBy W (some g)) where
  call := fun args w => enters_ Try.func49 (by kernel_rfl) rfl args w
  keep := by
    rintro pre W W' ⟨O', h1, h2, h3⟩ hs hb
    exact ⟨O', h1, h2.step (hb.block g hg), ⟨hb.os.trans h3.os, hb.tape.trans h3.tape, hb.output.trans h3.output, Nat.le_trans h3.size hb.size, fun k a b => (hb.block k a).trans (h3.block k a b)⟩⟩
  size := by
    rintro pre W ⟨O', h1, h2, h3⟩
    exact hP W (fun k hk hl => h3.block k hl (by intro e; injection e with e; exact hk.2 e))
  step := by
    rintro pre at_ m W A c hpre ⟨O', h1, h2, h3⟩ hC hc hs
    obtain ⟨post, hpost⟩ := hpre
    have hO' := resFold_length _ _ _ hO h1
    unfold grid_resFold at hr
    rw [← hpost, List.foldlM_append, List.foldlM_append] at hr
    obtain ⟨O2, h4, _⟩ := Option.bind_eq_some_iff.mp hr
    have h5 := h4
    obtain ⟨O3, h6, h7⟩ := Option.bind_eq_some_iff.mp h4
    have h1' : pre.foldlM (grid_resStep k D z H X n) O = some O' := h1
    rw [h1'] at h6
    cases h6
    rw [List.foldlM_cons] at h7
    obtain ⟨O3, h8, h9⟩ := Option.bind_eq_some_iff.mp h7
    cases h9
    have h8' := h8
    unfold grid_resStep at h8
    obtain ⟨p1, m2, h8⟩ := Option.bind_eq_some_iff.mp h8
    obtain ⟨p2, m3, h8⟩ := Option.bind_eq_some_iff.mp h8
    split at h8
    case isFalse => cases h8
    case isTrue hq =>
    cases h8
    obtain ⟨q1, q2, q3, q4, q5, q6⟩ := hq
    obtain ⟨a, ha⟩ := Int.eq_ofNat_of_zero_le q1
    obtain ⟨b, hb⟩ := Int.eq_ofNat_of_zero_le q2
    obtain ⟨d, hd⟩ := Int.eq_ofNat_of_zero_le (a := m * z) (by simp only at q3; omega)
    simp only at q3 q4 q5 q6
    rw [ha, hd] at q4
    rw [hb, hd] at q5
    rw [ha, hb, hd] at q6
    rw [hd] at q3
    obtain ⟨aX, rfl⟩ : ∃ aX, AX = some aX := by
      rcases hX with hX | hX
      · omega
      · exact hX
    have hM' := (hM aX rfl).step (W1 := W) (fun k hk hl => h3.block k hl (by intro e; injection e with e; exact hk.2 e))
    refine (grid_Resize1.calls k k BD AD cD D BZ z BH AH cH H BO g n cO BX aX cX X A c at_ m p1 p2 a b d W0.heap.size O' (fun k => k < W0.heap.size ∧ k ≠ g) W hM' (fun k hk => hk.2) hg hs h2 hO' hC hc m2 m3 ha hb hd (by omega) (by omega) (by omega) (by omega)).mono ?_
    rintro e W' ⟨rfl, b1, b2, b3⟩
    refine ⟨rfl, ⟨_, (by unfold grid_resFold; rw [List.foldlM_append]; exact h5), ?_, ⟨b3.os.trans h3.os, b3.tape.trans h3.tape, b3.output.trans h3.output, Nat.le_trans h3.size b3.size, fun k x y => (b3.block k (Nat.lt_of_lt_of_le x h3.size) y).trans (h3.block k x y)⟩⟩, ⟨b3.size, fun k x y => b3.block k y (by intro e; injection e with e; omega)⟩⟩
    rw [hb, ha, hd]
    exact b1
theorem mix_set (D H : List Int) (d : Nat) (h1 : d < D.length) (h2 : d < H.length) : ((grid_both D H).take d ++ D.drop d).set d (min (rd D d) (rd H d)) = (grid_both D H).take (d + 1) ++ D.drop (d + 1) := by
  have hl : (grid_both D H).length = min D.length H.length := by simp [grid_both]
  apply List.ext_getElem
  · simp; omega
  · intro i i1 i2
    have hi : i < D.length := by simp at i1; omega
    rw [List.getElem_set]
    split
    · rename_i e
      subst e
      rw [List.getElem_append_left (by simp; omega), List.getElem_take]
      simp [grid_both, rd, h1, h2]
    · rename_i e
      by_cases hlt : i < d
      · rw [List.getElem_append_left (by simp; omega), List.getElem_append_left (by simp; omega), List.getElem_take, List.getElem_take]
      · rw [List.getElem_append_right (by simp; omega), List.getElem_append_right (by simp; omega), List.getElem_drop, List.getElem_drop]
        congr 1
        simp
        omega
theorem mix_rd (D H : List Int) (d : Nat) (h1 : d < D.length) (h2 : d < H.length) : rd ((grid_both D H).take d ++ D.drop d) d = rd D d := by
  have hl : (grid_both D H).length = min D.length H.length := by simp [grid_both]
  simp only [rd, Int.toNat_natCast, List.getD_eq_getElem?_getD]
  rw [List.getElem?_append_right (by simp; omega), List.getElem?_drop]
  congr 2
  simp
  omega
theorem mix_length (D H : List Int) (d : Nat) (h1 : d ≤ D.length) (h2 : d ≤ H.length) : ((grid_both D H).take d ++ D.drop d).length = D.length := by
  have hl : (grid_both D H).length = min D.length H.length := by simp [grid_both]
  simp
  omega
set_option maxHeartbeats 4000000 in
set_option maxRecDepth 10000 in
theorem grid_Resize.calls (k : Nat) (A0 : Option Addr) (c0 : Nat) (X : List Int) (z : Int) (A2 : Option Addr) (c2 : Nat) (D : List Int) (A3 : Option Addr) (c3 : Nat) (H : List Int) (A5 : Option Addr) (c5 : Nat) (L r : List Int) (e : Int) (w : World)
    (hr0 : Kd.C (Kd.int .u8) w A0 X.length X) (hc0 : X.length ≤ c0) (hr2 : Kd.C (Kd.int .i64) w A2 D.length D) (hc2 : D.length ≤ c2) (hr3 : Kd.C (Kd.int .i64) w A3 H.length H) (hc3 : H.length ≤ c3)
    (hr5 : Kd.C (Kd.int .u8) w A5 L.length L) (hc5 : L.length ≤ c5) (h : grid_Resize.f k X z D H L = some (r, e)) :
    Calls Try.prog 21 #[.slice A0 X.length c0, .int .i64 z, .slice A2 D.length c2, .slice A3 H.length c3, .slice A5 L.length c5] w fun E w' => ∃ v, E = .returned (.tuple #[v, .int .i64 e]) ∧ OwnB 5 w' w.heap.size v r ∧ Below w.heap.size w w' := by
  unfold grid_Resize.f at h
  replace h := Option.bind_eq_some_iff.mp h
  obtain ⟨⟨n, en⟩, hN, h⟩ := h
  obtain ⟨hE, hB4⟩ := env4_boxes (z := z) 31 3 22 22 hr0 hc0 hr2 hc2 hr3 hc3 hr5 hc5
  have HE := Aside0.mk hE
  have HB4 := Aside0.mk hB4
  have HN := Aside0.mk hN
  have HH := Aside0.mk h
  have HU := Aside0.mk (Try.underlying22)
  clear hr0 hc0 hr2 hc2 hr3 hc3 hr5 hc5 hN h hE hB4
  go_enter Try.func21, Try.ntmps21
  go_upto_region 1 with (fail)
  generalize ((((w.alloc (.cells #[.slice A0 X.length c0] 31)).alloc (.cells #[.int .i64 z] 3)).alloc (.cells #[.slice A2 D.length c2] 22)).alloc (.cells #[.slice A3 H.length c3] 22)) = w4 at HE HB4 ⊢
  obtain ⟨b0, b1, b2, b3, -, -, -, -, -, -, -, -⟩ := HE.out
  go_upto_region 2 with (go_at_call 38; refine (space_Elements.calls A2 c2 D n en _ HE.out.r2 HE.out.l2 HN.out).mono ?_; rintro e_ w' ⟨rfl, ⟨n1, rfl⟩⟩)
  have HE5 := Aside0.mk (HE.out.below (pw_below_drewN (Below.refl _ _) n1))
  have HB5 := Aside0.mk (pw_below_drewN HB4.out n1)
  clear HE HB4 HN b0 b1 b2 b3
  generalize w4.drewN n1 = w5 at HE5 HB5 ⊢
  have h := HH.out
  clear HH
  try simp only at h
  by_cases h1 : en = 0
  case neg =>
    rw [if_neg h1] at h
    cases h
    have d1 : (e == 0) = false := by simpa using h1
    go_wp2
    go_ret2
    exact ⟨_, rfl, .inl ⟨rfl, _, _, rfl⟩, HB5.out⟩
  rw [if_pos h1] at h
  subst h1
  replace h := Option.bind_eq_some_iff.mp h
  obtain ⟨⟨m, em⟩, hM, h⟩ := h
  have HM := Aside0.mk hM
  have HH := Aside0.mk h
  clear hM h
  obtain ⟨b0, b1, b2, b3, -, -, -, -, -, -, -, -⟩ := HE5.out
  go_upto_region 5 with (go_at_call 38; refine (space_Elements.calls A3 c3 H m em _ HE5.out.r3 HE5.out.l3 HM.out).mono ?_; rintro e_ w' ⟨rfl, ⟨n2, rfl⟩⟩)
  have HE6 := Aside0.mk (HE5.out.below (pw_below_drewN (Below.refl _ _) n2))
  have HB6 := Aside0.mk (pw_below_drewN HB5.out n2)
  clear HE5 HB5 HM b0 b1 b2 b3
  generalize w5.drewN n2 = w6 at HE6 HB6 ⊢
  have h := HH.out
  clear HH
  try simp only at h
  by_cases h1 : em = 0
  case neg =>
    rw [if_neg h1] at h
    cases h
    have d1 : (e == 0) = false := by simpa using h1
    go_wp2
    go_ret2
    exact ⟨_, rfl, .inl ⟨rfl, _, _, rfl⟩, HB6.out⟩
  rw [if_pos h1] at h
  subst h1
  obtain ⟨b0, b1, b2, b3, -, -, -, -, -, -, -, -⟩ := HE6.out
  by_cases hl : D.length = H.length
  case neg =>
    rw [if_neg hl] at h
    cases h
    have d1 : ((D.length : Int) == (H.length : Int)) = false := by simpa using (show ¬ ((D.length : Int) = (H.length : Int)) by omega)
    have d2 : ((D.length : Int) = (H.length : Int)) = False := eq_false (by omega)
    clear hl
    go_wp2
    go_ret2
    exact ⟨_, rfl, .inl ⟨rfl, _, _, rfl⟩, HB6.out⟩
  rw [if_pos hl] at h
  have d1 : ((D.length : Int) == (H.length : Int)) = true := by simpa using (show ((D.length : Int) = (H.length : Int)) by omega)
  have d2 : ((D.length : Int) = (H.length : Int)) = True := eq_true (by omega)
  have d3 : ((D.length : Int) != (H.length : Int)) = false := by simpa using (show ((D.length : Int) = (H.length : Int)) by omega)
  have HLEN := Aside0.mk hl
  clear hl
  replace h := Option.bind_eq_some_iff.mp h
  obtain ⟨e2, hf2, h⟩ := h
  have HF2 := Aside0.mk hf2
  have HH := Aside0.mk h
  clear hf2 h
  go_upto_region 10 with (go_at_call 37; refine (grid_sized.calls k z (some ⟨w6.heap.size, 0, none⟩) 2 [D, H] e2 _ (two_rows (World.alloc_heap_new _ _) (Kd.C_alloc HE6.out.r2 _) HE6.out.l2 (Kd.C_alloc HE6.out.r3 _) HE6.out.l3) (Nat.le_refl _) HF2.out).mono ?_; rintro e_ w' ⟨rfl, ⟨n3, rfl⟩⟩)
  have hb7 := pw_below_drewN (below_alloc (Below.refl w6.heap.size w6) (.cells #[.slice A2 D.length c2, .slice A3 H.length c3] 22)) n3
  have HE8 := Aside0.mk (HE6.out.below hb7)
  have HB8 := Aside0.mk (pw_below_drewN (HB6.out.alloc HB6.out.size (.cells #[.slice A2 D.length c2, .slice A3 H.length c3] 22)) n3)
  clear HE6 HB6 HF2 b0 b1 b2 b3 hb7 d1 d2 d3
  generalize (w6.alloc (.cells #[.slice A2 D.length c2, .slice A3 H.length c3] 22)).drewN n3 = w8 at HE8 HB8 ⊢
  have h := HH.out
  clear HH
  by_cases h1 : e2 = 0
  case neg =>
    rw [if_neg h1] at h
    cases h
    have d1 : (e == 0) = false := by simpa using h1
    go_wp2
    go_ret2
    exact ⟨_, rfl, .inl ⟨rfl, _, _, rfl⟩, HB8.out⟩
  rw [if_pos h1] at h
  subst h1
  obtain ⟨b0, b1, b2, b3, -, -, -, -, -, -, -, -⟩ := HE8.out
  by_cases x1 : (X.length : Int) = wrap64 (n * z)
  case neg =>
    rw [if_neg (fun q => x1 q.1)] at h
    cases h
    have d1 : ((X.length : Int) == wrap64 (n * z)) = false := by simpa using x1
    go_wp2
    go_ret2
    exact ⟨_, rfl, .inl ⟨rfl, _, _, rfl⟩, HB8.out⟩
  have d1 : ((X.length : Int) == wrap64 (n * z)) = true := by simpa using x1
  have q1 : ((X.length : Int) = wrap64 (n * z)) = True := eq_true x1
  have m1 : ((X.length : Int) != wrap64 (n * z)) = false := by simpa using x1
  by_cases x2 : (L.length : Int) = z
  case neg =>
    rw [if_neg (fun q => x2 q.2)] at h
    cases h
    have d2 : ((L.length : Int) == z) = false := by simpa using x2
    have q2 : ((L.length : Int) = z) = False := eq_false x2
    clear x1
    go_wp2
    go_ret2
    exact ⟨_, rfl, .inl ⟨rfl, _, _, rfl⟩, HB8.out⟩
  have d2 : ((L.length : Int) == z) = true := by simpa using x2
  have q2 : ((L.length : Int) = z) = True := eq_true x2
  have m2 : ((L.length : Int) != z) = false := by simpa using x2
  rw [if_pos ⟨x1, x2⟩] at h
  replace h := Option.bind_eq_some_iff.mp h
  obtain ⟨O, hO, h⟩ := h
  replace h := Option.bind_eq_some_iff.mp h
  obtain ⟨D', hC, h⟩ := h
  have hDD : D' = D := by
    unfold slices_Clone_int_int.f at hC
    split at hC
    · cases hC; rfl
    · cases hC
  subst hDD
  split at h
  case isFalse => cases h
  case isTrue hq =>
  replace h := Option.bind_eq_some_iff.mp h
  obtain ⟨r', hr, h⟩ := h
  cases h
  have HO := Aside0.mk hO
  have HC := Aside0.mk hC
  have HQ := Aside0.mk hq
  have HFR := Aside0.mk hr
  clear hO hC hq hr x1 x2
  have HE9 := HE8
  have HB9 := HB8
  clear HE8 HB8
  go_upto_region 15 with (go_at_call 39; refine (grid_full.calls m A5 c5 L O _ HE9.out.r5 HE9.out.l5 HO.out).mono ?_; rintro e_ w10 ⟨g, rfl, hg, hbuf, hb⟩; have HG := Aside0.mk hg; have HBF := Aside0.mk hbuf; have HBL := Aside0.mk hb; clear hg hbuf hb)
  clear b0 b1 b2 b3 d1 q1 m1 d2 q2 m2
  have hb11 : Below w8.heap.size w8 (w10.alloc (.cells #[.slice (some ⟨g, 0, none⟩) O.length O.length] 31)) := below_alloc HBL.out _
  have HE11 := Aside0.mk (HE9.out.below hb11)
  have HB11 := Aside0.mk (below_step HB9.out hb11)
  have HX11 := Aside0.mk (show (w10.alloc (.cells #[.slice (some ⟨g, 0, none⟩) O.length O.length] 31)).heap[w10.heap.size]? = some (.cells #[.slice (some ⟨g, 0, none⟩) O.length O.length] 31 (0, 0)) from World.alloc_heap_new _ _)
  have HBF11 := Aside0.mk (HBF.out.below (below_alloc (Below.refl _ _) (.cells #[.slice (some ⟨g, 0, none⟩) O.length O.length] 31)))
  have HG10 := Aside0.mk HBF.out.lt
  have HB911 := Aside0.mk hb11
  have HZ11 := Aside0.mk (show (w10.alloc (.cells #[.slice (some ⟨g, 0, none⟩) O.length O.length] 31)).heap.size = w10.heap.size + 1 from World.size_alloc _ _)
  clear hb11 HBF HBL HB9 HO
  generalize hw11 : w10.alloc (.cells #[.slice (some ⟨g, 0, none⟩) O.length O.length] 31) = w11 at HE11 HB11 HX11 HBF11 HB911 HZ11 ⊢
  clear hw11
  obtain ⟨b0, b1, b2, b3, -, -, -, -, -, -, -, -⟩ := HE11.out
  go_upto_region 16 with (go_at_call 48; refine (slices_Clone_int_int.calls A2 c2 D' D' _ HE11.out.r2 HE11.out.l2 HC.out).mono ?_; rintro e_ w12 ⟨v0, rfl, hv0, hb⟩; obtain ⟨AP, cP, rfl⟩ := Kd.R_slice hv0; have HV0 := Aside0.mk hv0; have HBL := Aside0.mk hb; clear hv0 hb)
  clear b0 b1 b2 b3
  have HQQ := Aside0.mk (show D'.length = D'.length from rfl)
  have HD4 := Aside0.mk (show D'.length ≤ 4 by have h1 := HQ.out.1; have h2 := HLEN.out; simp [grid_both] at h1; omega)
  go_wp2
  go_loopg [67] D'.length (fun kq v67 W => ∃ d : Nat, v67 = .int .i64 (d : Int) ∧ Aside0 (d ≤ D'.length ∧ D'.length ≤ d + kq) ∧ Aside0 (Kd.R (Kd.int .i64) 3 W w11.heap.size (fun _ => True) (.slice AP D'.length cP) ((grid_both D' H).take d ++ D'.drop d)) ∧ Aside0 (Below w11.heap.size w11 W))
  case atStart => exact ⟨0, rfl, ⟨Nat.zero_le _, by omega⟩, HV0, HBL⟩
  case round =>
    obtain ⟨d, rfl, HI, HR, HB⟩ := hrel
    clear HV0 HBL
    by_cases hd : d < D'.length
    · have c1 : decide ((d : Int) < (D'.length : Int)) = true := by simp; omega
      have hmlen : ((grid_both D' H).take d ++ D'.drop d).length = D'.length := by rw [mix_length D' H d (by have := HQQ.out; omega) (by have := HQQ.out; have := HLEN.out; omega)]
      have hm1 := mix_rd D' H d (by have := HQQ.out; omega) (by have := HQQ.out; have := HLEN.out; omega)
      have hm2 := mix_set D' H d (by have := HQQ.out; omega) (by have := HQQ.out; have := HLEN.out; omega)
      have HDL := Aside0.mk hd
      have n2 : (d < D'.length) = True := eq_true hd
      clear hd
      go_upto_region 19 with (fail)
      have hRd := Kd.R_drew HR.out
      have hBd := below_drew1 HB.out
      have hEd := HE11.out.below hBd
      obtain ⟨go, co, eo, gb, gl, cl, hG⟩ := Kd.R_form hRd (by rw [hmlen]; have := HDL.out; omega)
      rw [hmlen] at eo
      cases eo
      have hc1 := Kd.R_celln 0 hRd (d : Int) (by omega) (by have := HDL.out; omega)
      obtain ⟨hx1, hf1⟩ := hc1
      rw [show rdOf 0 ((grid_both D' H).take d ++ D'.drop d) (d : Int) = rd D' (d : Int) from hm1] at hx1
      rw [Int.toNat_natCast] at hx1 hf1
      obtain ⟨ad2, e2, hx2⟩ := Kd.at_int hEd.r3 (d : Int) (by omega) (by have := HDL.out; have := HQQ.out; have := HLEN.out; omega)
      rw [Int.toNat_natCast] at hx2
      have hb3 := hEd.b3
      cases e2
      have hP := Kd.R_putn hRd (d : Int) (min (rd D' d) (rd H d))
      rw [Int.toNat_natCast] at hP
      rw [hm2] at hP
      have HP := Aside0.mk hP
      have HGB := Aside0.mk gb
      have HBD := Aside0.mk hBd
      have p1 : (0 ≤ (d : Int)) = True := eq_true (by omega)
      have p2 : ((d : Int) < (D'.length : Int)) = True := eq_true (by have := HDL.out; omega)
      have n3 : (d < H.length) = True := eq_true (by have := HDL.out; have := HQQ.out; have := HLEN.out; omega)
      have p3 : ((d : Int) < (H.length : Int)) = True := eq_true (by have := HDL.out; have := HQQ.out; have := HLEN.out; omega)
      clear hEd hBd hRd hP hm1 hm2 hmlen hG gb
      refine start_ (n := 13) (S := fun w' => w'.cell? ⟨go, d, none⟩ = some (.int .i64 (rd D' d)) ∧ w'.cell? ⟨w.heap.size + 1 + 1 + 1, 0, none⟩ = some (.slice (some ad2) H.length c3) ∧ w'.cell? (ad2.add d) = some (.int .i64 (rd H d))) (ds := [12]) #[false, false, false, false, false, false, false, false, false, false, false, false, false] (by kernel_rfl) rfl rfl ⟨hx1, hb3, hx2⟩ (fun hHeld => ?_)
      refine pure_ (i := 0) (N := some 70) (v := ?_) (a' := ?_) #[true, false, false, false, false, false, false, false, false, false, false, false, false] rfl rfl (by kernel_rfl) (fun _ _ _ h => h) (Or.inl ⟨by rfl, ?_⟩) ?_ ?_
      rotate_left
      · intro w'
        go_simp
        with_reducible rfl
      rotate_left
      · simp only [Act.put, List.setIfInBounds_toArray, List.set_cons_zero, List.set_cons_succ, i64_w, i32_w]
        rfl
      refine pure_ (i := 1) (N := some 71) (v := ?_) (a' := ?_) #[true, true, false, false, false, false, false, false, false, false, false, false, false] rfl rfl (by kernel_rfl) (fun _ _ _ h => h) (Or.inl ⟨by rfl, ?_⟩) ?_ ?_
      rotate_left
      · intro w'
        go_simp
        with_reducible rfl
      rotate_left
      · simp only [Act.put, List.setIfInBounds_toArray, List.set_cons_zero, List.set_cons_succ, i64_w, i32_w]
        rfl
      refine pure_ (i := 2) (N := some 72) (v := ?_) (a' := ?_) #[true, true, true, false, false, false, false, false, false, false, false, false, false] rfl rfl (by kernel_rfl) (fun _ _ _ h => h) (Or.inl ⟨by rfl, ?_⟩) ?_ ?_
      rotate_left
      · intro w'
        go_simp
        with_reducible rfl
      rotate_left
      · simp only [Act.put, List.setIfInBounds_toArray, List.set_cons_zero, List.set_cons_succ, i64_w, i32_w]
        rfl
      refine pure_ (i := 3) (N := some 73) (v := ?_) (a' := ?_) #[true, true, true, true, false, false, false, false, false, false, false, false, false] rfl rfl (by kernel_rfl) (fun _ _ _ h => h) (Or.inl ⟨by rfl, ?_⟩) ?_ ?_
      rotate_left
      · intro w'
        go_simp
        with_reducible rfl
      rotate_left
      · simp only [Act.put, List.setIfInBounds_toArray, List.set_cons_zero, List.set_cons_succ, i64_w, i32_w]
        rfl
      refine pure_ (i := 4) (N := some 74) (v := ?_) (a' := ?_) #[true, true, true, true, true, false, false, false, false, false, false, false, false] rfl rfl (by kernel_rfl) (fun _ _ _ h => h) (Or.inl ⟨by rfl, ?_⟩) ?_ ?_
      rotate_left
      · intro w'
        go_simp
        with_reducible rfl
      rotate_left
      · simp only [Act.put, List.setIfInBounds_toArray, List.set_cons_zero, List.set_cons_succ, i64_w, i32_w]
        rfl
      refine pure_ (i := 7) (N := some 77) (v := ?_) (a' := ?_) #[true, true, true, true, true, false, false, true, false, false, false, false, false] rfl rfl (by kernel_rfl) (fun _ _ _ h => h) (Or.inl ⟨by rfl, ?_⟩) ?_ ?_
      rotate_left
      · intro w'
        go_simp
        with_reducible rfl
      rotate_left
      · simp only [Act.put, List.setIfInBounds_toArray, List.set_cons_zero, List.set_cons_succ, i64_w, i32_w]
        rfl
      refine take_ (i := 5) (N := some 75) (v := ?_) (a' := ?_) #[true, true, true, true, true, true, false, true, false, false, false, false, false] rfl rfl (by kernel_rfl) (fun _ _ _ h => h) (Or.inl ⟨by rfl, ?_⟩) hHeld ?_ ?_
      rotate_left
      · rintro w' ⟨s1, s2, s3⟩
        go_simp
        with_reducible rfl
      rotate_left
      · simp only [Act.put, List.setIfInBounds_toArray, List.set_cons_zero, List.set_cons_succ, i64_w, i32_w]
        rfl
      refine take_ (i := 6) (N := some 76) (v := ?_) (a' := ?_) #[true, true, true, true, true, true, true, true, false, false, false, false, false] rfl rfl (by kernel_rfl) (fun _ _ _ h => h) (Or.inl ⟨by rfl, ?_⟩) hHeld ?_ ?_
      rotate_left
      · rintro w' ⟨s1, s2, s3⟩
        go_simp
        with_reducible rfl
      rotate_left
      · simp only [Act.put, List.setIfInBounds_toArray, List.set_cons_zero, List.set_cons_succ, i64_w, i32_w]
        rfl
      refine pure_ (i := 8) (N := some 78) (v := ?_) (a' := ?_) #[true, true, true, true, true, true, true, true, true, false, false, false, false] rfl rfl (by kernel_rfl) (fun _ _ _ h => h) (Or.inl ⟨by rfl, ?_⟩) ?_ ?_
      rotate_left
      · intro w'
        go_simp
        with_reducible rfl
      rotate_left
      · simp only [Act.put, List.setIfInBounds_toArray, List.set_cons_zero, List.set_cons_succ, i64_w, i32_w]
        rfl
      refine take_ (i := 9) (N := some 79) (v := ?_) (a' := ?_) #[true, true, true, true, true, true, true, true, true, true, false, false, false] rfl rfl (by kernel_rfl) (fun _ _ _ h => h) (Or.inl ⟨by rfl, ?_⟩) hHeld ?_ ?_
      rotate_left
      · rintro w' ⟨s1, s2, s3⟩
        go_simp
        with_reducible rfl
      rotate_left
      · simp only [Act.put, List.setIfInBounds_toArray, List.set_cons_zero, List.set_cons_succ, i64_w, i32_w]
        rfl
      refine pure_ (i := 10) (N := some 80) (v := ?_) (a' := ?_) #[true, true, true, true, true, true, true, true, true, true, true, false, false] rfl rfl (by kernel_rfl) (fun _ _ _ h => h) (Or.inl ⟨by rfl, ?_⟩) ?_ ?_
      rotate_left
      · intro w'
        go_simp
        with_reducible rfl
      rotate_left
      · simp only [Act.put, List.setIfInBounds_toArray, List.set_cons_zero, List.set_cons_succ, i64_w, i32_w]
        rfl
      refine pure_ (i := 11) (N := some 81) (v := ?_) (a' := ?_) #[true, true, true, true, true, true, true, true, true, true, true, true, false] rfl rfl (by kernel_rfl) (fun _ _ _ h => h) (Or.inl ⟨by rfl, ?_⟩) ?_ ?_
      rotate_left
      · intro w'
        go_simp
        with_reducible rfl
      rotate_left
      · simp only [Act.put, List.setIfInBounds_toArray, List.set_cons_zero, List.set_cons_succ, i64_w, i32_w]
        rfl
      refine last_ (i := 12) (N := none) #[true, true, true, true, true, true, true, true, true, true, true, true, true] rfl rfl (by kernel_rfl) (by decide) (fun K hK => ?_)
      refine skip_ (w1 := ?_) (by rfl) rfl ?_ ?_
      rotate_left
      · go_simp
        rfl
      refine hK.out _ _ ?_
      clear hK K
      refine done_ (by kernel_rfl) ?_
      have hmin : (if rd H (d : Int) < rd D' (d : Int) then rd H (d : Int) else rd D' (d : Int)) = min (rd D' (d : Int)) (rd H (d : Int)) := by
        split <;> omega
      rw [hmin]
      have hB2 := Aside0.mk (show Below w11.heap.size w11 (wr.drew.setCell ⟨go, d, none⟩ (.int .i64 (min (rd D' (d : Int)) (rd H (d : Int))))) from HBD.out.setCell (p := ⟨go, d, none⟩) HGB.out _)
      generalize hwx : (wr.setCell ⟨go, d, none⟩ (.int .i64 (min (rd D' (d : Int)) (rd H (d : Int))))).drew = w20
      have hwy : wr.drew.setCell ⟨go, d, none⟩ (.int .i64 (min (rd D' (d : Int)) (rd H (d : Int)))) = w20 := hwx
      rw [hwy] at HP hB2
      clear hwx hwy hmin
      go_wp2
      go_roundg (gk - 1)
      case measure => have := HI.out; have := HDL.out; omega
      case rel => exact ⟨d + 1, by have := HDL.out; have := HD4.out; rw [show wrap64 ((d : Int) + 1) = ((d + 1 : Nat) : Int) by unfold wrap64; omega], ⟨by have := HI.out; have := HDL.out; omega, by have := HI.out; have := HDL.out; omega⟩, HP, hB2⟩
    · have hdd : d = D'.length := by have := HI.out; omega
      have c1 : decide ((d : Int) < (D'.length : Int)) = false := by simp; omega
      have n2 : (d < D'.length) = False := eq_false hd
      have hrow : (grid_both D' H).take d ++ D'.drop d = grid_both D' H := by
        rw [hdd, List.drop_length, List.append_nil, List.take_of_length_le (by simp [grid_both]; omega)]
      rw [hrow] at HR
      have hbl : (grid_both D' H).length = D'.length := by have := HLEN.out; simp [grid_both]; omega
      rw [← hbl] at HR
      have hsz := HB.out.size
      have hlt : g < w10.heap.size := HG10.out
      have hz11 := HZ11.out
      have HM13 := Aside0.mk (show ∀ aX, A0 = some aX → Foot (grid_Resize1Mem (w.heap.size + 1 + 1) A2 c2 D' (w.heap.size + 1) z (w.heap.size + 1 + 1 + 1) A3 c3 H w10.heap.size g O.length O.length w.heap.size aX c0 X) wr (fun k => k < wr.heap.size ∧ k ≠ g) from by
        rintro aX rfl W hW
        have hE := (((HE9.out.foot).step (W1 := wr) (fun k _ hk => (below_step HB911.out HB.out).block k hk)).mono (ok' := fun k => k < wr.heap.size ∧ k ≠ g) (fun k hk => ⟨by have := HB911.out.size; omega, by have := HG.out; omega⟩)) W hW
        exact ⟨hE.b2, hE.b1, hE.b3, (blk_cell ((hW w10.heap.size ⟨by omega, by omega⟩ (by omega)).trans ((HB.out.block _ (by omega)).trans HX11.out)) 0).trans rfl, hE.b0, hE.r2, hE.l2, hE.r3, hE.l3, Nat.le_refl _, hE.r0, hE.l0⟩)
      have HP13 := Aside0.mk (show Foot (fun W => Kd.C (Kd.int .i64) W AP (grid_both D' H).length (grid_both D' H)) wr (fun k => k < wr.heap.size ∧ k ≠ g) from by
        intro W hW
        exact (Kd.R_F (Kd.R_mono (ok' := fun k => w11.heap.size ≤ k ∧ k < wr.heap.size) (Kd.R_bound HR.out) (fun k hk => ⟨hk.2.1, hk.2.2.1⟩))) W (fun k hk hl => hW k ⟨hl, by omega⟩ hl))
      have HX13 := Aside0.mk ((HB.out.block _ (by omega)).trans HX11.out)
      have HBF13 := Aside0.mk (HBF11.out.step (HB.out.block g (by omega)))
      have HB13 := Aside0.mk (below_step HB11.out HB.out)
      have HG13 := Aside0.mk (show g < wr.heap.size by omega)
      have HGB := Aside0.mk (show w.heap.size ≤ g from Nat.le_trans (Nat.le_of_lt (World.block_lt_of_cell? _ _ HE9.out.b0)) HG.out)
      have HCP := Aside0.mk (Kd.R_reads' HR.out).2.1
      have HAX := Aside0.mk (u8_addr HE9.out.r0)
      have HNE := Aside0.mk (show ¬ some w10.heap.size = some g from fun e => by injection e with e; omega)
      have HBL := Aside0.mk hbl
      clear hsz hlt hz11 HE9 HE11 HB11 HX11 HBF11 HB911 HZ11 HG10 hrow hdd HR HB hbl hd
      have HROWS := Aside0.mk (show Calls Try.prog 40 #[.slice AP D'.length cP, .func (.func 49) #[] #[.pointer (some ⟨w.heap.size + 1 + 1, 0, none⟩), .pointer (some ⟨w.heap.size + 1, 0, none⟩), .pointer (some ⟨w.heap.size + 1 + 1 + 1, 0, none⟩), .pointer (some ⟨w10.heap.size, 0, none⟩), .pointer (some ⟨w.heap.size, 0, none⟩)]] wr fun e w' => e = .returned (.tuple #[]) ∧ ∃ O', grid_resFold k D' z H X O.length O (rowsOf (grid_both D' H)) = some O' ∧ Buf 5 w' g O.length O' ∧ wr.grownBy w' (some g) from by
        have := grid_rows 49 _ _ AP cP (grid_both D' H) _ (res_each k (w.heap.size + 1 + 1) (w.heap.size + 1) (w.heap.size + 1 + 1 + 1) w10.heap.size w.heap.size A2 c2 D' z A3 c3 H g O.length O.length (Nat.le_refl _) A0 c0 X AP (grid_both D' H) O r wr HM13.out HAX.out HP13.out HG13.out rfl HFR.out) ⟨O, rfl, HBF13.out, ⟨rfl, rfl, rfl, Nat.le_refl _, fun _ _ _ => rfl⟩⟩ HQ.out.1 HQ.out.2 HCP.out
        rw [HBL.out] at this
        exact this)
      clear HM13 HP13
      go_upto_region 22 with (go_at_call 40; refine (HROWS.out).mono ?_; rintro e_ w14 ⟨rfl, ⟨O', h1, h2, h3⟩⟩; have H1 := Aside0.mk h1; have H2 := Aside0.mk h2; have H3 := Aside0.mk h3; clear h1 h2 h3)
      have e1 := HFR.out.symm.trans H1.out
      cases e1
      have hl := resFold_length _ _ _ rfl HFR.out
      have bo : w14.cell? ⟨w10.heap.size, 0, none⟩ = some (.slice (some ⟨g, 0, none⟩) O.length O.length) := (blk_cell ((H3.out.block _ (World.block_lt_of_cell? wr ⟨w10.heap.size, 0, none⟩ ((blk_cell HX13.out 0).trans rfl)) HNE.out).trans HX13.out) 0).trans rfl
      go_wp2
      go_ret2
      exact ⟨_, rfl, .inr ⟨g, _, by rw [hl]; rfl, by rw [hl]; exact Nat.le_refl _, HGB.out, by rw [hl]; exact H2.out⟩, HB13.out.grown H3.out HB13.out.size (fun k e => by cases e; exact HGB.out)⟩
end
end Go.Proofs.Ytjbjofmcmjojlab.Wk
end
section
namespace Go.Proofs.Ytjbjofmcmjojlab.Wk
open Go.RowKit Go.Proofs.YtjbjofmcmjojlabW.PrintWords Go.Proofs.YtjbjofmcmjojlabW.PrintLast Go.Proofs.YtjbjofmcmjojlabW.PrintMore
attribute [local go_sem] max2_int min2_int max_two min_two max_three min_three max_four min_four
set_option linter.unusedVariables false
set_option linter.unusedSimpArgs false
section
open Go.Proofs.YtjbjofmcmjojlabQ
def slabvaultlaw13_lives.f : Option (Bool) := some true
theorem C_lit (k : IntKind) {W : World} {b e : Nat} {fr : Nat × Nat} (xs : List Int) (h : W.heap[b]? = some (.cells (xs.map (Value.int k)).toArray e fr)) (hm : xs.length ≤ 9223372036854775807) : Kd.C (Kd.int k) W (some ⟨b, 0, none⟩) xs.length xs := by
  refine Kd.C_of_reads (d := (0 : Int)) (h1 := fun _ => rfl) ⟨rfl, hm, fun _ => ⟨_, rfl, fun j hj => ?_⟩⟩
  have he : (⟨b, 0, none⟩ : Addr).add j = ⟨b, j, none⟩ := by
    by_cases h0 : j = 0
    · subst h0; simp [Addr.add]
    · simp [Addr.add, h0]
  rw [he, show W.cell? ⟨b, j, none⟩ = (xs.map (Value.int k)).toArray[j]? by simp [World.cell?, h]]
  simp [List.getElem?_map, List.getElem?_eq_getElem hj, List.getD_eq_getElem?_getD]
theorem lits5 (w : World) (a b c d e : Obj) : let W := ((((w.alloc a).alloc b).alloc c).alloc d).alloc e; W.heap[w.heap.size]? = some a ∧ W.heap[w.heap.size + 1]? = some b ∧ W.heap[w.heap.size + 1 + 1]? = some c ∧ W.heap[w.heap.size + 1 + 1 + 1]? = some d ∧ W.heap[w.heap.size + 1 + 1 + 1 + 1]? = some e ∧ Below w.heap.size w W := by
  intro W
  have h1 := World.alloc_heap_new w a
  have h2 := World.alloc_heap_new (w.alloc a) b
  have h3 := World.alloc_heap_new ((w.alloc a).alloc b) c
  have h4 := World.alloc_heap_new (((w.alloc a).alloc b).alloc c) d
  have h5 := World.alloc_heap_new ((((w.alloc a).alloc b).alloc c).alloc d) e
  simp only [World.size_alloc] at h2 h3 h4 h5
  exact ⟨blk_alloc (blk_alloc (blk_alloc (blk_alloc h1 _) _) _) _, blk_alloc (blk_alloc (blk_alloc h2 _) _) _, blk_alloc (blk_alloc h3 _) _, blk_alloc h4 _, h5, below_alloc (below_alloc (below_alloc (below_alloc (below_alloc (Below.refl _ _) _) _) _) _) _⟩
theorem lits4 (w : World) (a b c d : Obj) : let W := ((((w.alloc a).alloc b).alloc c).alloc d); W.heap[w.heap.size]? = some a ∧ W.heap[w.heap.size + 1]? = some b ∧ W.heap[w.heap.size + 1 + 1]? = some c ∧ W.heap[w.heap.size + 1 + 1 + 1]? = some d ∧ Below w.heap.size w W := by
  intro W
  have h1 := World.alloc_heap_new w a
  have h2 := World.alloc_heap_new (w.alloc a) b
  have h3 := World.alloc_heap_new ((w.alloc a).alloc b) c
  have h4 := World.alloc_heap_new (((w.alloc a).alloc b).alloc c) d
  simp only [World.size_alloc] at h2 h3 h4
  exact ⟨blk_alloc (blk_alloc (blk_alloc h1 _) _) _, blk_alloc (blk_alloc h2 _) _, blk_alloc h3 _, h4, below_alloc (below_alloc (below_alloc (below_alloc (Below.refl _ _) _) _) _) _⟩
theorem ownB_form {e : Nat} {W : World} {base : Nat} {v : Value} {r : List Int} (h : OwnB e W base v r) (h0 : 0 < r.length) : ∃ g c, v = .slice (some ⟨g, 0, none⟩) r.length c ∧ base ≤ g ∧ r.length ≤ c ∧ Buf e W g r.length r := by
  rcases h with ⟨rfl, _⟩ | ⟨g, c, h1, h2, h3, h4⟩
  · simp at h0
  · exact ⟨g, c, h1, h3, h2, h4⟩
theorem lits2 (w : World) (a b : Obj) : let W := ((w.alloc a).alloc b); W.heap[w.heap.size]? = some a ∧ W.heap[w.heap.size + 1]? = some b ∧ Below w.heap.size w W := by
  intro W
  have h1 := World.alloc_heap_new w a
  have h2 := World.alloc_heap_new (w.alloc a) b
  simp only [World.size_alloc] at h2
  exact ⟨blk_alloc h1 _, h2, below_alloc (below_alloc (Below.refl _ _) _) _⟩
theorem lives_chunks : grid_Chunks.f 10 [5] [2] = some (3, 0) := by decide +kernel
theorem lives_cut : grid_Cut.f 10 [97, 98, 99, 100, 101] 1 [5] [2] [2] [45] = some ([101, 45], 0) := by decide +kernel
theorem lives_resize : grid_Resize.f 10 [97, 98, 99, 100] 1 [2, 2] [3, 1] [45] = some ([97, 99, 45], 0) := by decide +kernel
set_option maxHeartbeats 4000000 in
set_option maxRecDepth 10000 in
theorem slabvaultlaw13_lives.calls (r : Bool) (w : World) (h : slabvaultlaw13_lives.f = some r) : Calls Try.prog 14 #[] w fun e w' => e = .returned (.bool r) ∧ Below w.heap.size w w' := by
  cases h
  go_enter Try.func14, Try.ntmps14
  obtain ⟨a1, a2, hb⟩ := lits2 w (.cells #[.int .i64 5] 3) (.cells #[.int .i64 2] 3)
  have A1 := Aside0.mk (C_lit .i64 [5] a1 (by decide))
  have A2 := Aside0.mk (C_lit .i64 [2] a2 (by decide))
  have HB := Aside0.mk hb
  clear a1 a2 hb
  go_upto_region 2 with (go_at_call 25; refine (grid_Chunks.calls 10 (some ⟨w.heap.size, 0, none⟩) 1 [5] (some ⟨w.heap.size + 1, 0, none⟩) 1 [2] 3 0 _ A1.out (Nat.le_refl _) A2.out (Nat.le_refl _) lives_chunks).mono ?_; rintro e_ w1 ⟨rfl, ⟨n1, rfl⟩⟩)
  have HB1 := Aside0.mk (pw_below_drewN HB.out n1)
  clear HB A1 A2
  generalize (((w.alloc (.cells #[.int .i64 5] 3)).alloc (.cells #[.int .i64 2] 3)).drewN n1) = w1 at HB1 ⊢
  have hc1 : (convert 31 31 (.slice (some ⟨w1.heap.size, 0, none⟩) 5 5)).run Try.prog (w1.alloc (.cells #[.int .u8 97, .int .u8 98, .int .u8 99, .int .u8 100, .int .u8 101] 5)) = .ok (.slice (some ⟨w1.heap.size, 0, none⟩) 5 5) (w1.alloc (.cells #[.int .u8 97, .int .u8 98, .int .u8 99, .int .u8 100, .int .u8 101] 5 (5, 6))) := Lib.run_convert_bytes_const w1 31 5 _ 5 5 Try.underlying31 Try.underlying5
  have hc2 : (convert 31 31 (.slice (some ⟨w1.heap.size + 1 + 1 + 1 + 1, 0, none⟩) 1 1)).run Try.prog (((((w1.alloc (.cells #[.int .u8 97, .int .u8 98, .int .u8 99, .int .u8 100, .int .u8 101] 5 (5, 6))).alloc (.cells #[.int .i64 5] 3)).alloc (.cells #[.int .i64 2] 3)).alloc (.cells #[.int .i64 2] 3)).alloc (.cells #[.int .u8 45] 5)) = .ok (.slice (some ⟨w1.heap.size + 1 + 1 + 1 + 1, 0, none⟩) 1 1) (((((w1.alloc (.cells #[.int .u8 97, .int .u8 98, .int .u8 99, .int .u8 100, .int .u8 101] 5 (5, 6))).alloc (.cells #[.int .i64 5] 3)).alloc (.cells #[.int .i64 2] 3)).alloc (.cells #[.int .i64 2] 3)).alloc (.cells #[.int .u8 45] 5 (1, 2))) := by
    have := Lib.run_convert_bytes_const (P := Try.prog) ((((w1.alloc (.cells #[.int .u8 97, .int .u8 98, .int .u8 99, .int .u8 100, .int .u8 101] 5 (5, 6))).alloc (.cells #[.int .i64 5] 3)).alloc (.cells #[.int .i64 2] 3)).alloc (.cells #[.int .i64 2] 3)) 31 5 #[.int .u8 45] 1 1 Try.underlying31 Try.underlying5
    simp only [World.size_alloc] at this
    exact this
  obtain ⟨a1, a2, a3, a4, a5, hb⟩ := lits5 w1 (.cells #[.int .u8 97, .int .u8 98, .int .u8 99, .int .u8 100, .int .u8 101] 5 (5, 6)) (.cells #[.int .i64 5] 3) (.cells #[.int .i64 2] 3) (.cells #[.int .i64 2] 3) (.cells #[.int .u8 45] 5 (1, 2))
  have A1 := Aside0.mk (C_lit .u8 [97, 98, 99, 100, 101] a1 (by decide))
  have A2 := Aside0.mk (C_lit .i64 [5] a2 (by decide))
  have A3 := Aside0.mk (C_lit .i64 [2] a3 (by decide))
  have A4 := Aside0.mk (C_lit .i64 [2] a4 (by decide))
  have A5 := Aside0.mk (C_lit .u8 [45] a5 (by decide))
  have HB2 := Aside0.mk (below_step HB1.out hb)
  clear a1 a2 a3 a4 a5 hb HB1
  go_upto_region 3 with (go_at_call 17; refine (grid_Cut.calls 10 (some ⟨w1.heap.size, 0, none⟩) 5 [97, 98, 99, 100, 101] 1 (some ⟨w1.heap.size + 1, 0, none⟩) 1 [5] (some ⟨w1.heap.size + 1 + 1, 0, none⟩) 1 [2] (some ⟨w1.heap.size + 1 + 1 + 1, 0, none⟩) 1 [2] (some ⟨w1.heap.size + 1 + 1 + 1 + 1, 0, none⟩) 1 [45] [101, 45] 0 _ A1.out (Nat.le_refl _) A2.out (Nat.le_refl _) A3.out (Nat.le_refl _) A4.out (Nat.le_refl _) A5.out (Nat.le_refl _) lives_cut).mono ?_; rintro e_ w2 ⟨v2, rfl, ho, hb⟩; have HO := Aside0.mk ho; have HBB := Aside0.mk hb; have HB3 := Aside0.mk (below_step HB2.out hb); clear ho hb)
  obtain ⟨g2, c2, rfl, -, -, hb2⟩ := ownB_form HO.out (by decide)
  have BF2 := Aside0.mk hb2
  clear A1 A2 A3 A4 A5 HB2 HBB hc1 hc2 HO hb2
  have hc1 : (convert 31 31 (.slice (some ⟨w2.heap.size, 0, none⟩) 4 4)).run Try.prog (w2.alloc (.cells #[.int .u8 97, .int .u8 98, .int .u8 99, .int .u8 100] 5)) = .ok (.slice (some ⟨w2.heap.size, 0, none⟩) 4 4) (w2.alloc (.cells #[.int .u8 97, .int .u8 98, .int .u8 99, .int .u8 100] 5 (4, 5))) := Lib.run_convert_bytes_const w2 31 5 _ 4 4 Try.underlying31 Try.underlying5
  have hc2 : (convert 31 31 (.slice (some ⟨w2.heap.size + 1 + 1 + 1, 0, none⟩) 1 1)).run Try.prog ((((w2.alloc (.cells #[.int .u8 97, .int .u8 98, .int .u8 99, .int .u8 100] 5 (4, 5))).alloc (.cells #[.int .i64 2, .int .i64 2] 3)).alloc (.cells #[.int .i64 3, .int .i64 1] 3)).alloc (.cells #[.int .u8 45] 5)) = .ok (.slice (some ⟨w2.heap.size + 1 + 1 + 1, 0, none⟩) 1 1) ((((w2.alloc (.cells #[.int .u8 97, .int .u8 98, .int .u8 99, .int .u8 100] 5 (4, 5))).alloc (.cells #[.int .i64 2, .int .i64 2] 3)).alloc (.cells #[.int .i64 3, .int .i64 1] 3)).alloc (.cells #[.int .u8 45] 5 (1, 2))) := by
    have := Lib.run_convert_bytes_const (P := Try.prog) (((w2.alloc (.cells #[.int .u8 97, .int .u8 98, .int .u8 99, .int .u8 100] 5 (4, 5))).alloc (.cells #[.int .i64 2, .int .i64 2] 3)).alloc (.cells #[.int .i64 3, .int .i64 1] 3)) 31 5 #[.int .u8 45] 1 1 Try.underlying31 Try.underlying5
    simp only [World.size_alloc] at this
    exact this
  obtain ⟨a1, a2, a3, a4, hb⟩ := lits4 w2 (.cells #[.int .u8 97, .int .u8 98, .int .u8 99, .int .u8 100] 5 (4, 5)) (.cells #[.int .i64 2, .int .i64 2] 3) (.cells #[.int .i64 3, .int .i64 1] 3) (.cells #[.int .u8 45] 5 (1, 2))
  have A1 := Aside0.mk (C_lit .u8 [97, 98, 99, 100] a1 (by decide))
  have A2 := Aside0.mk (C_lit .i64 [2, 2] a2 (by decide))
  have A3 := Aside0.mk (C_lit .i64 [3, 1] a3 (by decide))
  have A4 := Aside0.mk (C_lit .u8 [45] a4 (by decide))
  have HB4 := Aside0.mk hb
  clear a1 a2 a3 a4 hb
  go_upto_region 4 with (go_at_call 21; refine (grid_Resize.calls 10 (some ⟨w2.heap.size, 0, none⟩) 4 [97, 98, 99, 100] 1 (some ⟨w2.heap.size + 1, 0, none⟩) 2 [2, 2] (some ⟨w2.heap.size + 1 + 1, 0, none⟩) 2 [3, 1] (some ⟨w2.heap.size + 1 + 1 + 1, 0, none⟩) 1 [45] [97, 99, 45] 0 _ A1.out (Nat.le_refl _) A2.out (Nat.le_refl _) A3.out (Nat.le_refl _) A4.out (Nat.le_refl _) lives_resize).mono ?_; rintro e_ w3 ⟨v3, rfl, ho, hb⟩; have HO := Aside0.mk ho; have HB5 := Aside0.mk (below_step HB4.out hb); clear ho hb)
  obtain ⟨g3, c3, rfl, -, -, hb3⟩ := ownB_form HO.out (by decide)
  have hs1 := Kd.C_string (P := Try.prog) (A := some ⟨g2, 0, none⟩) (c := c2) Try.underlying31 Try.underlying5 Try.underlying9 ((BF2.out.below HB5.out).C rfl)
  have hs2 := Kd.C_string (P := Try.prog) (A := some ⟨g3, 0, none⟩) (c := c3) Try.underlying31 Try.underlying5 Try.underlying9 (hb3.C rfl)
  rw [show strOfNums [101, 45] = ⟨#[101, 45]⟩ by decide +kernel] at hs1
  rw [show strOfNums [97, 99, 45] = ⟨#[97, 99, 45]⟩ by decide +kernel] at hs2
  have hs1 := (show (convert 31 9 (.slice (some ⟨g2, 0, none⟩) 2 c2)).run Try.prog w3 = .ok (.string ⟨#[101, 45]⟩) w3 from hs1)
  have hs2 := (show (convert 31 9 (.slice (some ⟨g3, 0, none⟩) 3 c3)).run Try.prog w3 = .ok (.string ⟨#[97, 99, 45]⟩) w3 from hs2)
  have HBE := Aside0.mk (below_step HB3.out HB5.out)
  clear A1 A2 A3 A4 HB4 HB5 BF2 hb3 HO HB3 hc1 hc2
  go_wp2
  go_ret
  exact ⟨rfl, HBE.out⟩
end
end Go.Proofs.Ytjbjofmcmjojlab.Wk
end
section
namespace Go.Proofs.Ytjbjofmcmjojlab.Wk
open Go.RowKit Go.Proofs.YtjbjofmcmjojlabW.PrintWords Go.Proofs.YtjbjofmcmjojlabW.PrintLast Go.Proofs.YtjbjofmcmjojlabW.PrintMore
attribute [local go_sem] max2_int min2_int max_two min_two max_three min_three max_four min_four
set_option linter.unusedVariables false
set_option linter.unusedSimpArgs false
mutual
def slabvaultref12_Elements.l0 : Nat → List Int → Int → Int → Option (Int × Int)
  | 0, _, _, _ => none
  | k + 1, x0, x4, x5 => if x5 < (x0.length : Int) then (if 0 ≤ x5 then (if (rd x0 x5) < 0 then (some (0, 2)) else (if (rd x0 x5) > 1048576 then (some (0, 2)) else (slabvaultref12_Elements.l0 k x0 x4 (wrap64 (x5 + 1))))) else (none)) else (slabvaultref12_Elements.l1 k x0 x4 0)
def slabvaultref12_Elements.l1 : Nat → List Int → Int → Int → Option (Int × Int)
  | 0, _, _, _ => none
  | k + 1, x0, x4, x6 => if x6 < (x0.length : Int) then (if 0 ≤ x6 then (if (rd x0 x6) = 0 then (some (0, 0)) else (slabvaultref12_Elements.l1 k x0 x4 (wrap64 (x6 + 1)))) else (none)) else (slabvaultref12_Elements.l2 k x0 x4 0)
def slabvaultref12_Elements.l2 : Nat → List Int → Int → Int → Option (Int × Int)
  | 0, _, _, _ => none
  | k + 1, x0, x4, x7 => if x7 < (x0.length : Int) then (if 0 ≤ x7 then (if (wrap64 (x4 * (rd x0 x7))) > 1048576 then (some (0, 3)) else (slabvaultref12_Elements.l2 k x0 (wrap64 (x4 * (rd x0 x7))) (wrap64 (x7 + 1)))) else (none)) else (some (x4, 0))
end
def slabvaultref12_Elements.f (k : Nat) (l0 : List Int) : Option (Int × Int) := if (l0.length : Int) > 4 then (some (0, 2)) else (slabvaultref12_Elements.l0 k l0 1 0)
set_option maxHeartbeats 8000000 in
set_option maxRecDepth 100000 in
theorem slabvaultref12_Elements.calls (k : Nat) (A0 : Option Addr) (c0 : Nat) (l0 : List Int) (r1 : Int) (r2 : Int) (w : World) (hr0 : Kd.C (Kd.int .i64) w A0 l0.length l0) (hc0 : l0.length ≤ c0) (h : slabvaultref12_Elements.f k l0 = some (r1, r2)) :
    Calls Try.prog 24 #[.slice A0 l0.length c0] w fun e w' => e = .returned (.tuple #[.int .i64 r1, .int .i64 r2]) ∧ Drawn0 w w' := by
  have HR0 := Aside0.mk hr0
  have HC0 := Aside0.mk hc0
  clear hr0 hc0
  have H : (if (l0.length : Int) > 4 then (some (0, 2)) else (slabvaultref12_Elements.l0 k l0 1 0)) = some (r1, r2) := h
  clear h
  by_cases c2 : (l0.length : Int) > 4
  · rw [if_pos c2] at H
    have c2b0 : decide (4 < (l0.length : Int)) = true := decide_eq_true c2
    have c2b1 : decide (4 < l0.length) = true := decide_eq_true (by omega)
    clear c2
    simp only [Option.some.injEq, Prod.mk.injEq] at H
    obtain ⟨rfl, rfl⟩ := H
    go_enter Try.func24, Try.ntmps24
    go_wp2
    go_ret2
    exact ⟨by first | rfl | (simp; done) | (simp [*]; done), by repeat (first | exact Drawn0.refl _ | apply Drawn0.step)⟩
  · rw [if_neg c2] at H
    have c2b0 : decide (4 < (l0.length : Int)) = false := decide_eq_false c2
    have c2b1 : decide (4 < l0.length) = false := decide_eq_false (by omega)
    clear c2
    have H' := Aside0.mk H
    clear H
    go_enter Try.func24, Try.ntmps24
    go_wp2
    go_loopg [5] k (fun kq v5 w' => ∃ (x5_1 : Int), v5 = .int .i64 x5_1 ∧ Aside0 (slabvaultref12_Elements.l0 kq l0 1 x5_1 = some (r1, r2)) ∧ Aside0 (kq ≤ k) ∧ Drawn0 w w')
    case atStart => exact ⟨(0), (by first | rfl | (simp; done) | (simp [*]; done)), H', ⟨Nat.le_refl _⟩, by repeat (first | exact Drawn0.refl _ | apply Drawn0.step)⟩
    case round =>
      clear H'
      try clear c2
      try clear c2b0
      try clear c2b1
      try clear p2
      obtain ⟨x5_1, rfl, HA, HK1, ⟨m1, rfl⟩⟩ := hrel
      cases gk with
      | zero => exact absurd HA.out (by simp [slabvaultref12_Elements.l0])
      | succ k1 =>
        have H := HA.out
        clear HA
        simp only [slabvaultref12_Elements.l0] at H
        by_cases c3 : x5_1 < (l0.length : Int)
        · rw [if_pos c3] at H
          have c3b0 : decide (x5_1 < (l0.length : Int)) = true := decide_eq_true c3
          clear c3
          by_cases c4 : 0 ≤ x5_1
          · rw [if_pos c4] at H
            have c4b0 : decide (0 ≤ x5_1) = true := decide_eq_true c4
            clear c4
            by_cases c5 : (rd l0 x5_1) < 0
            · rw [if_pos c5] at H
              have c5b0 : decide ((rd l0 x5_1) < 0) = true := decide_eq_true c5
              clear c5
              simp only [Option.some.injEq, Prod.mk.injEq] at H
              obtain ⟨rfl, rfl⟩ := H
              have p139 : 0 ≤ (x5_1 : Int) := of_decide_eq_true (by first | (with_reducible assumption) | assumption)
              have q139 : x5_1 < (l0.length : Int) := of_decide_eq_true (by first | (with_reducible assumption) | assumption)
              obtain ⟨ad139, e139, hx139_0⟩ := Kd.at_int HR0.out x5_1 p139 q139
              cases e139
              replace p139 := eq_true p139
              replace q139 := eq_true q139
              go_wp2
              go_ret2
              exact ⟨by first | rfl | (simp; done) | (simp [*]; done), by repeat (first | exact Drawn0.refl _ | apply Drawn0.step)⟩
            · rw [if_neg c5] at H
              have c5b0 : decide ((rd l0 x5_1) < 0) = false := decide_eq_false c5
              clear c5
              by_cases c6 : (rd l0 x5_1) > 1048576
              · rw [if_pos c6] at H
                have c6b0 : decide (1048576 < (rd l0 x5_1)) = true := decide_eq_true c6
                clear c6
                simp only [Option.some.injEq, Prod.mk.injEq] at H
                obtain ⟨rfl, rfl⟩ := H
                have p139 : 0 ≤ (x5_1 : Int) := of_decide_eq_true (by first | (with_reducible assumption) | assumption)
                have q139 : x5_1 < (l0.length : Int) := of_decide_eq_true (by first | (with_reducible assumption) | assumption)
                obtain ⟨ad139, e139, hx139_0⟩ := Kd.at_int HR0.out x5_1 p139 q139
                cases e139
                replace p139 := eq_true p139
                replace q139 := eq_true q139
                have p140 : 0 ≤ (x5_1 : Int) := of_decide_eq_true (by first | (with_reducible assumption) | assumption)
                have q140 : x5_1 < (l0.length : Int) := of_decide_eq_true (by first | (with_reducible assumption) | assumption)
                obtain ⟨ad140, e140, hx140_0⟩ := Kd.at_int HR0.out x5_1 p140 q140
                obtain rfl : ad139 = ad140 := (by injection e140)
                replace p140 := eq_true p140
                replace q140 := eq_true q140
                go_wp2
                go_ret2
                exact ⟨by first | rfl | (simp; done) | (simp [*]; done), by repeat (first | exact Drawn0.refl _ | apply Drawn0.step)⟩
              · rw [if_neg c6] at H
                have c6b0 : decide (1048576 < (rd l0 x5_1)) = false := decide_eq_false c6
                clear c6
                have H' := Aside0.mk H
                clear H
                have p139 : 0 ≤ (x5_1 : Int) := of_decide_eq_true (by first | (with_reducible assumption) | assumption)
                have q139 : x5_1 < (l0.length : Int) := of_decide_eq_true (by first | (with_reducible assumption) | assumption)
                obtain ⟨ad139, e139, hx139_0⟩ := Kd.at_int HR0.out x5_1 p139 q139
                cases e139
                replace p139 := eq_true p139
                replace q139 := eq_true q139
                have p140 : 0 ≤ (x5_1 : Int) := of_decide_eq_true (by first | (with_reducible assumption) | assumption)
                have q140 : x5_1 < (l0.length : Int) := of_decide_eq_true (by first | (with_reducible assumption) | assumption)
                obtain ⟨ad140, e140, hx140_0⟩ := Kd.at_int HR0.out x5_1 p140 q140
                obtain rfl : ad139 = ad140 := (by injection e140)
                replace p140 := eq_true p140
                replace q140 := eq_true q140
                go_wp2
                go_roundg k1
                case measure => have := HK1.out; omega
                case rel => exact ⟨(wrap64 (x5_1 + 1)), (by first | rfl | (simp; done) | (simp [*]; done)), H', ⟨by have := HK1.out; omega⟩, by repeat (first | exact Drawn0.refl _ | apply Drawn0.step)⟩
          · rw [if_neg c4] at H
            exact absurd H (by simp)
        · rw [if_neg c3] at H
          have c3b0 : decide (x5_1 < (l0.length : Int)) = false := decide_eq_false c3
          clear c3
          have H' := Aside0.mk H
          clear H
          go_wp2
          go_loopg [6] k1 (fun kq v6 w' => ∃ (x6_2 : Int), v6 = .int .i64 x6_2 ∧ Aside0 (slabvaultref12_Elements.l1 kq l0 1 x6_2 = some (r1, r2)) ∧ Aside0 (kq ≤ k1) ∧ Drawn0 w w')
          case atStart => exact ⟨(0), (by first | rfl | (simp; done) | (simp [*]; done)), H', ⟨Nat.le_refl _⟩, by repeat (first | exact Drawn0.refl _ | apply Drawn0.step)⟩
          case round =>
            clear H'
            try clear p1
            try clear q1
            try clear hx1
            try clear c2
            try clear c2b0
            try clear c2b1
            try clear p2
            try clear c3
            try clear c3b0
            try clear c4
            try clear c4b0
            try clear c5
            try clear c5b0
            try clear c6
            try clear c6b0
            try clear p6
            try clear hx139_0
            try clear hx140_0
            try clear p139
            try clear p140
            try clear p2
            try clear q139
            try clear q140
            obtain ⟨x6_2, rfl, HA, HK2, ⟨m2, rfl⟩⟩ := hrel
            cases gk with
            | zero => exact absurd HA.out (by simp [slabvaultref12_Elements.l1])
            | succ k2 =>
              have H := HA.out
              clear HA
              simp only [slabvaultref12_Elements.l1] at H
              by_cases c7 : x6_2 < (l0.length : Int)
              · rw [if_pos c7] at H
                have c7b0 : decide (x6_2 < (l0.length : Int)) = true := decide_eq_true c7
                clear c7
                by_cases c8 : 0 ≤ x6_2
                · rw [if_pos c8] at H
                  have c8b0 : decide (0 ≤ x6_2) = true := decide_eq_true c8
                  clear c8
                  by_cases c9 : (rd l0 x6_2) = 0
                  · rw [if_pos c9] at H
                    have c9b0 : ((rd l0 x6_2) == 0) = true := beq_iff_eq.mpr c9
                    have c9b1 : ((rd l0 x6_2) != 0) = false := bne_eq_false_iff_eq.mpr c9
                    clear c9
                    simp only [Option.some.injEq, Prod.mk.injEq] at H
                    obtain ⟨rfl, rfl⟩ := H
                    have p141 : 0 ≤ (x6_2 : Int) := of_decide_eq_true (by first | (with_reducible assumption) | assumption)
                    have q141 : x6_2 < (l0.length : Int) := of_decide_eq_true (by first | (with_reducible assumption) | assumption)
                    obtain ⟨ad141, e141, hx141_0⟩ := Kd.at_int HR0.out x6_2 p141 q141
                    cases e141
                    replace p141 := eq_true p141
                    replace q141 := eq_true q141
                    go_wp2
                    go_ret2
                    exact ⟨by first | rfl | (simp; done) | (simp [*]; done), by repeat (first | exact Drawn0.refl _ | apply Drawn0.step)⟩
                  · rw [if_neg c9] at H
                    have c9b0 : ((rd l0 x6_2) == 0) = false := beq_eq_false_iff_ne.mpr c9
                    have c9b1 : ((rd l0 x6_2) != 0) = true := bne_iff_ne.mpr c9
                    have H' := Aside0.mk H
                    clear H
                    have p141 : 0 ≤ (x6_2 : Int) := of_decide_eq_true (by first | (with_reducible assumption) | assumption)
                    have q141 : x6_2 < (l0.length : Int) := of_decide_eq_true (by first | (with_reducible assumption) | assumption)
                    obtain ⟨ad141, e141, hx141_0⟩ := Kd.at_int HR0.out x6_2 p141 q141
                    cases e141
                    replace p141 := eq_true p141
                    replace q141 := eq_true q141
                    go_wp2
                    go_roundg k2
                    case measure => have := HK1.out; have := HK2.out; omega
                    case rel => exact ⟨(wrap64 (x6_2 + 1)), (by first | rfl | (simp; done) | (simp [*]; done)), H', ⟨by have := HK1.out; have := HK2.out; omega⟩, by repeat (first | exact Drawn0.refl _ | apply Drawn0.step)⟩
                · rw [if_neg c8] at H
                  exact absurd H (by simp)
              · rw [if_neg c7] at H
                have c7b0 : decide (x6_2 < (l0.length : Int)) = false := decide_eq_false c7
                clear c7
                have H' := Aside0.mk H
                clear H
                go_wp2
                go_loopg [4, 7] k2 (fun kq v4 v7 w' => ∃ (x4_3 : Int) (x7_3 : Int), v4 = .int .i64 x4_3 ∧ v7 = .int .i64 x7_3 ∧ Aside0 (slabvaultref12_Elements.l2 kq l0 x4_3 x7_3 = some (r1, r2)) ∧ Aside0 (kq ≤ k2) ∧ Drawn0 w w')
                case atStart => exact ⟨(1), (0), (by first | rfl | (simp; done) | (simp [*]; done)), (by first | rfl | (simp; done) | (simp [*]; done)), H', ⟨Nat.le_refl _⟩, by repeat (first | exact Drawn0.refl _ | apply Drawn0.step)⟩
                case round =>
                  clear H'
                  try clear p1
                  try clear q1
                  try clear hx1
                  try clear c2
                  try clear c2b0
                  try clear c2b1
                  try clear p2
                  try clear c3
                  try clear c3b0
                  try clear c4
                  try clear c4b0
                  try clear c5
                  try clear c5b0
                  try clear c6
                  try clear c6b0
                  try clear p6
                  try clear c7
                  try clear c7b0
                  try clear c8
                  try clear c8b0
                  try clear c9
                  try clear c9b0
                  try clear c9b1
                  try clear hx139_0
                  try clear hx140_0
                  try clear hx141_0
                  try clear p1
                  try clear p139
                  try clear p140
                  try clear p141
                  try clear p2
                  try clear p6
                  try clear q1
                  try clear q139
                  try clear q140
                  try clear q141
                  obtain ⟨x4_3, x7_3, rfl, rfl, HA, HK3, ⟨m3, rfl⟩⟩ := hrel
                  cases gk with
                  | zero => exact absurd HA.out (by simp [slabvaultref12_Elements.l2])
                  | succ k3 =>
                    have H := HA.out
                    clear HA
                    simp only [slabvaultref12_Elements.l2] at H
                    by_cases c10 : x7_3 < (l0.length : Int)
                    · rw [if_pos c10] at H
                      have c10b0 : decide (x7_3 < (l0.length : Int)) = true := decide_eq_true c10
                      clear c10
                      by_cases c11 : 0 ≤ x7_3
                      · rw [if_pos c11] at H
                        have c11b0 : decide (0 ≤ x7_3) = true := decide_eq_true c11
                        clear c11
                        by_cases c12 : (wrap64 (x4_3 * (rd l0 x7_3))) > 1048576
                        · rw [if_pos c12] at H
                          have c12b0 : decide (1048576 < (wrap64 (x4_3 * (rd l0 x7_3)))) = true := decide_eq_true c12
                          clear c12
                          simp only [Option.some.injEq, Prod.mk.injEq] at H
                          obtain ⟨rfl, rfl⟩ := H
                          have p142 : 0 ≤ (x7_3 : Int) := of_decide_eq_true (by first | (with_reducible assumption) | assumption)
                          have q142 : x7_3 < (l0.length : Int) := of_decide_eq_true (by first | (with_reducible assumption) | assumption)
                          obtain ⟨ad142, e142, hx142_0⟩ := Kd.at_int HR0.out x7_3 p142 q142
                          cases e142
                          replace p142 := eq_true p142
                          replace q142 := eq_true q142
                          go_wp2
                          go_ret2
                          exact ⟨by first | rfl | (simp; done) | (simp [*]; done), by repeat (first | exact Drawn0.refl _ | apply Drawn0.step)⟩
                        · rw [if_neg c12] at H
                          have c12b0 : decide (1048576 < (wrap64 (x4_3 * (rd l0 x7_3)))) = false := decide_eq_false c12
                          clear c12
                          have H' := Aside0.mk H
                          clear H
                          have p142 : 0 ≤ (x7_3 : Int) := of_decide_eq_true (by first | (with_reducible assumption) | assumption)
                          have q142 : x7_3 < (l0.length : Int) := of_decide_eq_true (by first | (with_reducible assumption) | assumption)
                          obtain ⟨ad142, e142, hx142_0⟩ := Kd.at_int HR0.out x7_3 p142 q142
                          cases e142
                          replace p142 := eq_true p142
                          replace q142 := eq_true q142
                          go_wp2
                          go_roundg k3
                          case measure => have := HK1.out; have := HK2.out; have := HK3.out; omega
                          case rel => exact ⟨(wrap64 (x4_3 * (rd l0 x7_3))), (wrap64 (x7_3 + 1)), (by first | rfl | (simp; done) | (simp [*]; done)), (by first | rfl | (simp; done) | (simp [*]; done)), H', ⟨by have := HK1.out; have := HK2.out; have := HK3.out; omega⟩, by repeat (first | exact Drawn0.refl _ | apply Drawn0.step)⟩
                      · rw [if_neg c11] at H
                        exact absurd H (by simp)
                    · rw [if_neg c10] at H
                      have c10b0 : decide (x7_3 < (l0.length : Int)) = false := decide_eq_false c10
                      clear c10
                      simp only [Option.some.injEq, Prod.mk.injEq] at H
                      obtain ⟨rfl, rfl⟩ := H
                      go_wp2
                      go_ret2
                      exact ⟨by first | rfl | (simp; done) | (simp [*]; done), by repeat (first | exact Drawn0.refl _ | apply Drawn0.step)⟩
end Go.Proofs.Ytjbjofmcmjojlab.Wk
end
section
namespace Go.Proofs.Ytjbjofmcmjojlab.Wk
open Go.RowKit Go.Proofs.YtjbjofmcmjojlabW.PrintWords Go.Proofs.YtjbjofmcmjojlabW.PrintLast Go.Proofs.YtjbjofmcmjojlabW.PrintMore
attribute [local go_sem] max2_int min2_int max_two min_two max_three min_three max_four min_four
set_option linter.unusedVariables false
set_option linter.unusedSimpArgs false
def slabvaultref13_Fit.l0 : Nat → List Int → Int → Option (Int)
  | 0, _, _ => none
  | k + 1, x1, x7 => if x7 < (x1.length : Int) then (if 0 ≤ x7 then (if (rd x1 x7) < 1 then (some 2) else (if (rd x1 x7) > 1048576 then (some 2) else (slabvaultref13_Fit.l0 k x1 (wrap64 (x7 + 1))))) else (none)) else ((slabvaultref12_Elements.f k x1).bind fun bt147 => (some bt147.2))
def slabvaultref13_Fit.f (k : Nat) (l0 : List Int) (l1 : List Int) : Option (Int) := (slabvaultref12_Elements.f k l0).bind fun bt143 => (if bt143.2 = 0 then (if (l1.length : Int) = (l0.length : Int) then (slabvaultref13_Fit.l0 k l1 0) else (some 2)) else (some bt143.2))
set_option maxHeartbeats 8000000 in
set_option maxRecDepth 100000 in
theorem slabvaultref13_Fit.calls (k : Nat) (A0 : Option Addr) (c0 : Nat) (l0 : List Int) (A1 : Option Addr) (c1 : Nat) (l1 : List Int) (r : Int) (w : World) (hr0 : Kd.C (Kd.int .i64) w A0 l0.length l0) (hc0 : l0.length ≤ c0) (hr1 : Kd.C (Kd.int .i64) w A1 l1.length l1) (hc1 : l1.length ≤ c1) (h : slabvaultref13_Fit.f k l0 l1 = some r) :
    Calls Try.prog 35 #[.slice A0 l0.length c0, .slice A1 l1.length c1] w fun e w' => e = .returned (.int .i64 r) ∧ Drawn0 w w' := by
  have HR0 := Aside0.mk hr0
  have HC0 := Aside0.mk hc0
  clear hr0 hc0
  have HR1 := Aside0.mk hr1
  have HC1 := Aside0.mk hc1
  clear hr1 hc1
  have H : ((slabvaultref12_Elements.f k l0).bind fun bt143 => (if bt143.2 = 0 then (if (l1.length : Int) = (l0.length : Int) then (slabvaultref13_Fit.l0 k l1 0) else (some 2)) else (some bt143.2))) = some r := h
  clear h
  replace H := Option.bind_eq_some_iff.mp H
  obtain ⟨⟨t143, t144⟩, A30, H⟩ := H
  replace H : (if t144 = 0 then (if (l1.length : Int) = (l0.length : Int) then (slabvaultref13_Fit.l0 k l1 0) else (some 2)) else (some t144)) = some r := H
  have A3 := Aside0.mk A30
  clear A30
  by_cases c4 : t144 = 0
  · rw [if_pos c4] at H
    have c4b0 : (t144 == 0) = true := beq_iff_eq.mpr c4
    have c4b1 : (t144 != 0) = false := bne_eq_false_iff_eq.mpr c4
    clear c4
    by_cases c5 : (l1.length : Int) = (l0.length : Int)
    · rw [if_pos c5] at H
      have c5b0 : ((l1.length : Int) == (l0.length : Int)) = true := beq_iff_eq.mpr c5
      have c5b1 : ((l1.length : Int) != (l0.length : Int)) = false := bne_eq_false_iff_eq.mpr c5
      have c5b2 : (l1.length == l0.length) = true := by first | simpa using c5 | (simp at c5 ⊢; omega)
      clear c5
      have H' := Aside0.mk H
      clear H
      go_enter Try.func35, Try.ntmps35
      go_wp2_with (first | ((with_reducible refine gate_callee (f := 24) rfl ?_); refine goesL_ (some 10) rfl rfl Try.func24 (by kernel_rfl) rfl #[.slice A0 l0.length c0] rfl (by (try simp only [List.map_toArray, List.map_cons, List.map_nil]); first | done | rfl | (simp only [List.length_drop, List.length_take]; rfl)) ?_; (with_reducible refine (slabvaultref12_Elements.calls k _ _ l0 t143 t144 _ ?side1 ?side2 A3.out).mono ?_); (case side1 => repeat (first | exact HR0.out | (with_reducible refine Kd.C_alloc ?_ _) | (with_reducible refine Kd.C_drewN ?_ _) | (with_reducible refine Kd.C_drew ?_))); (case side2 => exact HC0.out); rintro e w' ⟨rfl, ⟨nd, rfl⟩⟩; refine ⟨_, rfl, ?_⟩))
      go_loopg [7] k (fun kq v7 w' => ∃ (x7_1 : Int), v7 = .int .i64 x7_1 ∧ Aside0 (slabvaultref13_Fit.l0 kq l1 x7_1 = some r) ∧ Aside0 (kq ≤ k) ∧ Drawn0 w w')
      case atStart => exact ⟨(0), (by first | rfl | (simp; done) | (simp [*]; done)), H', ⟨Nat.le_refl _⟩, by repeat (first | exact Drawn0.refl _ | apply Drawn0.step)⟩
      case round =>
        clear H'
        try clear c1
        try clear c2
        try clear p2
        try clear c3
        try clear c4
        try clear c4b0
        try clear c4b1
        try clear c5
        try clear c5b0
        try clear c5b1
        try clear c5b2
        obtain ⟨x7_1, rfl, HA, HK1, ⟨m1, rfl⟩⟩ := hrel
        cases gk with
        | zero => exact absurd HA.out (by simp [slabvaultref13_Fit.l0])
        | succ k1 =>
          have H := HA.out
          clear HA
          simp only [slabvaultref13_Fit.l0] at H
          by_cases c6 : x7_1 < (l1.length : Int)
          · rw [if_pos c6] at H
            have c6b0 : decide (x7_1 < (l1.length : Int)) = true := decide_eq_true c6
            clear c6
            by_cases c7 : 0 ≤ x7_1
            · rw [if_pos c7] at H
              have c7b0 : decide (0 ≤ x7_1) = true := decide_eq_true c7
              clear c7
              by_cases c8 : (rd l1 x7_1) < 1
              · rw [if_pos c8] at H
                have c8b0 : decide ((rd l1 x7_1) < 1) = true := decide_eq_true c8
                clear c8
                obtain rfl := Option.some.inj H
                have p145 : 0 ≤ (x7_1 : Int) := of_decide_eq_true (by first | (with_reducible assumption) | assumption)
                have q145 : x7_1 < (l1.length : Int) := of_decide_eq_true (by first | (with_reducible assumption) | assumption)
                obtain ⟨ad145, e145, hx145_0⟩ := Kd.at_int HR1.out x7_1 p145 q145
                cases e145
                replace p145 := eq_true p145
                replace q145 := eq_true q145
                go_wp2
                go_ret
                exact ⟨by first | rfl | (simp; done) | (simp [*]; done), by repeat (first | exact Drawn0.refl _ | apply Drawn0.step)⟩
              · rw [if_neg c8] at H
                have c8b0 : decide ((rd l1 x7_1) < 1) = false := decide_eq_false c8
                clear c8
                by_cases c9 : (rd l1 x7_1) > 1048576
                · rw [if_pos c9] at H
                  have c9b0 : decide (1048576 < (rd l1 x7_1)) = true := decide_eq_true c9
                  clear c9
                  obtain rfl := Option.some.inj H
                  have p145 : 0 ≤ (x7_1 : Int) := of_decide_eq_true (by first | (with_reducible assumption) | assumption)
                  have q145 : x7_1 < (l1.length : Int) := of_decide_eq_true (by first | (with_reducible assumption) | assumption)
                  obtain ⟨ad145, e145, hx145_0⟩ := Kd.at_int HR1.out x7_1 p145 q145
                  cases e145
                  replace p145 := eq_true p145
                  replace q145 := eq_true q145
                  have p146 : 0 ≤ (x7_1 : Int) := of_decide_eq_true (by first | (with_reducible assumption) | assumption)
                  have q146 : x7_1 < (l1.length : Int) := of_decide_eq_true (by first | (with_reducible assumption) | assumption)
                  obtain ⟨ad146, e146, hx146_0⟩ := Kd.at_int HR1.out x7_1 p146 q146
                  obtain rfl : ad145 = ad146 := (by injection e146)
                  replace p146 := eq_true p146
                  replace q146 := eq_true q146
                  go_wp2
                  go_ret
                  exact ⟨by first | rfl | (simp; done) | (simp [*]; done), by repeat (first | exact Drawn0.refl _ | apply Drawn0.step)⟩
                · rw [if_neg c9] at H
                  have c9b0 : decide (1048576 < (rd l1 x7_1)) = false := decide_eq_false c9
                  clear c9
                  have H' := Aside0.mk H
                  clear H
                  have p145 : 0 ≤ (x7_1 : Int) := of_decide_eq_true (by first | (with_reducible assumption) | assumption)
                  have q145 : x7_1 < (l1.length : Int) := of_decide_eq_true (by first | (with_reducible assumption) | assumption)
                  obtain ⟨ad145, e145, hx145_0⟩ := Kd.at_int HR1.out x7_1 p145 q145
                  cases e145
                  replace p145 := eq_true p145
                  replace q145 := eq_true q145
                  have p146 : 0 ≤ (x7_1 : Int) := of_decide_eq_true (by first | (with_reducible assumption) | assumption)
                  have q146 : x7_1 < (l1.length : Int) := of_decide_eq_true (by first | (with_reducible assumption) | assumption)
                  obtain ⟨ad146, e146, hx146_0⟩ := Kd.at_int HR1.out x7_1 p146 q146
                  obtain rfl : ad145 = ad146 := (by injection e146)
                  replace p146 := eq_true p146
                  replace q146 := eq_true q146
                  go_wp2
                  go_roundg k1
                  case measure => have := HK1.out; omega
                  case rel => exact ⟨(wrap64 (x7_1 + 1)), (by first | rfl | (simp; done) | (simp [*]; done)), H', ⟨by have := HK1.out; omega⟩, by repeat (first | exact Drawn0.refl _ | apply Drawn0.step)⟩
            · rw [if_neg c7] at H
              exact absurd H (by simp)
          · rw [if_neg c6] at H
            have c6b0 : decide (x7_1 < (l1.length : Int)) = false := decide_eq_false c6
            clear c6
            replace H := Option.bind_eq_some_iff.mp H
            obtain ⟨⟨t147, t148⟩, A100, H⟩ := H
            replace H : (some t148) = some r := H
            have A10 := Aside0.mk A100
            clear A100
            obtain rfl := Option.some.inj H
            go_wp2_with (first | ((with_reducible refine gate_callee (f := 24) rfl ?_); refine goesL_ (some 41) rfl rfl Try.func24 (by kernel_rfl) rfl #[.slice A1 l1.length c1] rfl (by (try simp only [List.map_toArray, List.map_cons, List.map_nil]); first | done | rfl | (simp only [List.length_drop, List.length_take]; rfl)) ?_; (with_reducible refine (slabvaultref12_Elements.calls k1 _ _ l1 t147 t148 _ ?side1 ?side2 A10.out).mono ?_); (case side1 => repeat (first | exact HR1.out | (with_reducible refine Kd.C_alloc ?_ _) | (with_reducible refine Kd.C_drewN ?_ _) | (with_reducible refine Kd.C_drew ?_))); (case side2 => exact HC1.out); rintro e w' ⟨rfl, ⟨nd, rfl⟩⟩; refine ⟨_, rfl, ?_⟩))
            go_ret
            exact ⟨by first | rfl | (simp; done) | (simp [*]; done), by repeat (first | exact Drawn0.refl _ | apply Drawn0.step)⟩
    · rw [if_neg c5] at H
      have c5b0 : ((l1.length : Int) == (l0.length : Int)) = false := beq_eq_false_iff_ne.mpr c5
      have c5b1 : ((l1.length : Int) != (l0.length : Int)) = true := bne_iff_ne.mpr c5
      have c5b2 : (l1.length == l0.length) = false := by first | simpa using c5 | (simp at c5 ⊢; omega)
      obtain rfl := Option.some.inj H
      go_enter Try.func35, Try.ntmps35
      go_wp2_with (first | ((with_reducible refine gate_callee (f := 24) rfl ?_); refine goesL_ (some 10) rfl rfl Try.func24 (by kernel_rfl) rfl #[.slice A0 l0.length c0] rfl (by (try simp only [List.map_toArray, List.map_cons, List.map_nil]); first | done | rfl | (simp only [List.length_drop, List.length_take]; rfl)) ?_; (with_reducible refine (slabvaultref12_Elements.calls k _ _ l0 t143 t144 _ ?side1 ?side2 A3.out).mono ?_); (case side1 => repeat (first | exact HR0.out | (with_reducible refine Kd.C_alloc ?_ _) | (with_reducible refine Kd.C_drewN ?_ _) | (with_reducible refine Kd.C_drew ?_))); (case side2 => exact HC0.out); rintro e w' ⟨rfl, ⟨nd, rfl⟩⟩; refine ⟨_, rfl, ?_⟩))
      go_ret
      exact ⟨by first | rfl | (simp; done) | (simp [*]; done), by repeat (first | exact Drawn0.refl _ | apply Drawn0.step)⟩
  · rw [if_neg c4] at H
    have c4b0 : (t144 == 0) = false := beq_eq_false_iff_ne.mpr c4
    have c4b1 : (t144 != 0) = true := bne_iff_ne.mpr c4
    obtain rfl := Option.some.inj H
    go_enter Try.func35, Try.ntmps35
    go_wp2_with (first | ((with_reducible refine gate_callee (f := 24) rfl ?_); refine goesL_ (some 10) rfl rfl Try.func24 (by kernel_rfl) rfl #[.slice A0 l0.length c0] rfl (by (try simp only [List.map_toArray, List.map_cons, List.map_nil]); first | done | rfl | (simp only [List.length_drop, List.length_take]; rfl)) ?_; (with_reducible refine (slabvaultref12_Elements.calls k _ _ l0 t143 t144 _ ?side1 ?side2 A3.out).mono ?_); (case side1 => repeat (first | exact HR0.out | (with_reducible refine Kd.C_alloc ?_ _) | (with_reducible refine Kd.C_drewN ?_ _) | (with_reducible refine Kd.C_drew ?_))); (case side2 => exact HC0.out); rintro e w' ⟨rfl, ⟨nd, rfl⟩⟩; refine ⟨_, rfl, ?_⟩))
    go_ret
    exact ⟨by first | rfl | (simp; done) | (simp [*]; done), by repeat (first | exact Drawn0.refl _ | apply Drawn0.step)⟩
end Go.Proofs.Ytjbjofmcmjojlab.Wk
end
section
namespace Go.Proofs.Ytjbjofmcmjojlab.Wk
open Go.RowKit Go.Proofs.YtjbjofmcmjojlabW.PrintWords Go.Proofs.YtjbjofmcmjojlabW.PrintLast Go.Proofs.YtjbjofmcmjojlabW.PrintMore
attribute [local go_sem] max2_int min2_int max_two min_two max_three min_three max_four min_four
set_option linter.unusedVariables false
set_option linter.unusedSimpArgs false
def slabvaultref13_Chunks.l0 : Nat → List Int → List Int → Int → Int → Option (Int × Int)
  | 0, _, _, _, _ => none
  | k + 1, x0, x1, x7, x8 => if x8 < (x0.length : Int) then (if 0 ≤ x8 then (if x8 < (x1.length : Int) then (if (rd x1 x8) = 0 then (none) else (slabvaultref13_Chunks.l0 k x0 x1 (wrap64 (x7 * (wrap64 (Int.tdiv (wrap64 ((wrap64 ((rd x0 x8) + (rd x1 x8))) - 1)) (rd x1 x8))))) (wrap64 (x8 + 1)))) else (none)) else (none)) else (some (x7, 0))
def slabvaultref13_Chunks.f (k : Nat) (l0 : List Int) (l1 : List Int) : Option (Int × Int) := (slabvaultref13_Fit.f k l0 l1).bind fun t149 => (if t149 = 0 then (slabvaultref13_Chunks.l0 k l0 l1 1 0) else (some (0, t149)))
set_option maxHeartbeats 8000000 in
set_option maxRecDepth 100000 in
theorem slabvaultref13_Chunks.calls (k : Nat) (A0 : Option Addr) (c0 : Nat) (l0 : List Int) (A1 : Option Addr) (c1 : Nat) (l1 : List Int) (r1 : Int) (r2 : Int) (w : World) (hr0 : Kd.C (Kd.int .i64) w A0 l0.length l0) (hc0 : l0.length ≤ c0) (hr1 : Kd.C (Kd.int .i64) w A1 l1.length l1) (hc1 : l1.length ≤ c1) (h : slabvaultref13_Chunks.f k l0 l1 = some (r1, r2)) :
    Calls Try.prog 26 #[.slice A0 l0.length c0, .slice A1 l1.length c1] w fun e w' => e = .returned (.tuple #[.int .i64 r1, .int .i64 r2]) ∧ Drawn0 w w' := by
  have HR0 := Aside0.mk hr0
  have HC0 := Aside0.mk hc0
  clear hr0 hc0
  have HR1 := Aside0.mk hr1
  have HC1 := Aside0.mk hc1
  clear hr1 hc1
  have H : ((slabvaultref13_Fit.f k l0 l1).bind fun t149 => (if t149 = 0 then (slabvaultref13_Chunks.l0 k l0 l1 1 0) else (some (0, t149)))) = some (r1, r2) := h
  clear h
  replace H := Option.bind_eq_some_iff.mp H
  obtain ⟨t149, A30, H⟩ := H
  replace H : (if t149 = 0 then (slabvaultref13_Chunks.l0 k l0 l1 1 0) else (some (0, t149))) = some (r1, r2) := H
  have A3 := Aside0.mk A30
  clear A30
  by_cases c4 : t149 = 0
  · rw [if_pos c4] at H
    have c4b0 : (t149 == 0) = true := beq_iff_eq.mpr c4
    have c4b1 : (t149 != 0) = false := bne_eq_false_iff_eq.mpr c4
    clear c4
    have H' := Aside0.mk H
    clear H
    go_enter Try.func26, Try.ntmps26
    go_wp2_with (first | (go_at_call 35; (with_reducible refine (slabvaultref13_Fit.calls k _ _ l0 _ _ l1 t149 _ ?side1 ?side2 ?side3 ?side4 A3.out).mono ?_); (case side1 => repeat (first | exact HR0.out | (with_reducible refine Kd.C_alloc ?_ _) | (with_reducible refine Kd.C_drewN ?_ _) | (with_reducible refine Kd.C_drew ?_))); (case side2 => exact HC0.out); (case side3 => repeat (first | exact HR1.out | (with_reducible refine Kd.C_alloc ?_ _) | (with_reducible refine Kd.C_drewN ?_ _) | (with_reducible refine Kd.C_drew ?_))); (case side4 => exact HC1.out); rintro e w' ⟨rfl, ⟨nd, rfl⟩⟩; (try first | exact ⟨rfl, _, World.drewN_drewN _ _ _⟩ | exact ⟨rfl, _, Eq.trans (World.drewN_drewN _ _ _) (congrArg (World.drewN _) (Nat.add_assoc _ _ _))⟩)))
    repeat (go_quiet (first | (go_at_call 35; (with_reducible refine (slabvaultref13_Fit.calls k _ _ l0 _ _ l1 t149 _ ?side1 ?side2 ?side3 ?side4 A3.out).mono ?_); (case side1 => repeat (first | exact HR0.out | (with_reducible refine Kd.C_alloc ?_ _) | (with_reducible refine Kd.C_drewN ?_ _) | (with_reducible refine Kd.C_drew ?_))); (case side2 => exact HC0.out); (case side3 => repeat (first | exact HR1.out | (with_reducible refine Kd.C_alloc ?_ _) | (with_reducible refine Kd.C_drewN ?_ _) | (with_reducible refine Kd.C_drew ?_))); (case side4 => exact HC1.out); rintro e w' ⟨rfl, ⟨nd, rfl⟩⟩; (try first | exact ⟨rfl, _, World.drewN_drewN _ _ _⟩ | exact ⟨rfl, _, Eq.trans (World.drewN_drewN _ _ _) (congrArg (World.drewN _) (Nat.add_assoc _ _ _))⟩))); try go_wp2_with (first | (go_at_call 35; (with_reducible refine (slabvaultref13_Fit.calls k _ _ l0 _ _ l1 t149 _ ?side1 ?side2 ?side3 ?side4 A3.out).mono ?_); (case side1 => repeat (first | exact HR0.out | (with_reducible refine Kd.C_alloc ?_ _) | (with_reducible refine Kd.C_drewN ?_ _) | (with_reducible refine Kd.C_drew ?_))); (case side2 => exact HC0.out); (case side3 => repeat (first | exact HR1.out | (with_reducible refine Kd.C_alloc ?_ _) | (with_reducible refine Kd.C_drewN ?_ _) | (with_reducible refine Kd.C_drew ?_))); (case side4 => exact HC1.out); rintro e w' ⟨rfl, ⟨nd, rfl⟩⟩; (try first | exact ⟨rfl, _, World.drewN_drewN _ _ _⟩ | exact ⟨rfl, _, Eq.trans (World.drewN_drewN _ _ _) (congrArg (World.drewN _) (Nat.add_assoc _ _ _))⟩))))
    go_loopg [7, 8] k (fun kq v7 v8 w' => ∃ (x7_1 : Int) (x8_1 : Int), v7 = .int .i64 x7_1 ∧ v8 = .int .i64 x8_1 ∧ Aside0 (slabvaultref13_Chunks.l0 kq l0 l1 x7_1 x8_1 = some (r1, r2)) ∧ Aside0 (kq ≤ k) ∧ Drawn0 w w')
    case atStart => exact ⟨(1), (0), (by first | rfl | (simp; done) | (simp [*]; done)), (by first | rfl | (simp; done) | (simp [*]; done)), H', ⟨Nat.le_refl _⟩, by repeat (first | exact Drawn0.refl _ | apply Drawn0.step)⟩
    case round =>
      clear H'
      try clear c1
      try clear c2
      try clear p2
      try clear c4
      try clear c4b0
      try clear c4b1
      obtain ⟨x7_1, x8_1, rfl, rfl, HA, HK1, ⟨m1, rfl⟩⟩ := hrel
      cases gk with
      | zero => exact absurd HA.out (by simp [slabvaultref13_Chunks.l0])
      | succ k1 =>
        have H := HA.out
        clear HA
        simp only [slabvaultref13_Chunks.l0] at H
        by_cases c5 : x8_1 < (l0.length : Int)
        · rw [if_pos c5] at H
          have c5b0 : decide (x8_1 < (l0.length : Int)) = true := decide_eq_true c5
          clear c5
          by_cases c6 : 0 ≤ x8_1
          · rw [if_pos c6] at H
            have c6b0 : decide (0 ≤ x8_1) = true := decide_eq_true c6
            clear c6
            by_cases c7 : x8_1 < (l1.length : Int)
            · rw [if_pos c7] at H
              have c7b0 : decide (x8_1 < (l1.length : Int)) = true := decide_eq_true c7
              clear c7
              by_cases c8 : (rd l1 x8_1) = 0
              · rw [if_pos c8] at H
                exact absurd H (by simp)
              · rw [if_neg c8] at H
                have c8b0 : ((rd l1 x8_1) == 0) = false := beq_eq_false_iff_ne.mpr c8
                have c8b1 : ((rd l1 x8_1) != 0) = true := bne_iff_ne.mpr c8
                have H' := Aside0.mk H
                clear H
                have p150 : 0 ≤ (x8_1 : Int) := of_decide_eq_true (by first | (with_reducible assumption) | assumption)
                have q150 : x8_1 < (l0.length : Int) := of_decide_eq_true (by first | (with_reducible assumption) | assumption)
                obtain ⟨ad150, e150, hx150_0⟩ := Kd.at_int HR0.out x8_1 p150 q150
                cases e150
                replace p150 := eq_true p150
                replace q150 := eq_true q150
                have p151 : 0 ≤ (x8_1 : Int) := of_decide_eq_true (by first | (with_reducible assumption) | assumption)
                have q151 : x8_1 < (l1.length : Int) := of_decide_eq_true (by first | (with_reducible assumption) | assumption)
                obtain ⟨ad151, e151, hx151_0⟩ := Kd.at_int HR1.out x8_1 p151 q151
                cases e151
                replace p151 := eq_true p151
                replace q151 := eq_true q151
                have p152 : 0 ≤ (x8_1 : Int) := of_decide_eq_true (by first | (with_reducible assumption) | assumption)
                have q152 : x8_1 < (l1.length : Int) := of_decide_eq_true (by first | (with_reducible assumption) | assumption)
                obtain ⟨ad152, e152, hx152_0⟩ := Kd.at_int HR1.out x8_1 p152 q152
                obtain rfl : ad151 = ad152 := (by injection e152)
                replace p152 := eq_true p152
                replace q152 := eq_true q152
                go_wp2
                repeat (go_quiet (fail); try go_wp2)
                go_roundg k1
                case measure => have := HK1.out; omega
                case rel => exact ⟨(wrap64 (x7_1 * (wrap64 (Int.tdiv (wrap64 ((wrap64 ((rd l0 x8_1) + (rd l1 x8_1))) - 1)) (rd l1 x8_1))))), (wrap64 (x8_1 + 1)), (by first | rfl | (simp; done) | (simp [*]; done)), (by first | rfl | (simp; done) | (simp [*]; done)), H', ⟨by have := HK1.out; omega⟩, by repeat (first | exact Drawn0.refl _ | apply Drawn0.step)⟩
            · rw [if_neg c7] at H
              exact absurd H (by simp)
          · rw [if_neg c6] at H
            exact absurd H (by simp)
        · rw [if_neg c5] at H
          have c5b0 : decide (x8_1 < (l0.length : Int)) = false := decide_eq_false c5
          clear c5
          simp only [Option.some.injEq, Prod.mk.injEq] at H
          obtain ⟨rfl, rfl⟩ := H
          go_wp2
          repeat (go_quiet (fail); try go_wp2)
          go_ret2
          exact ⟨by first | rfl | (simp; done) | (simp [*]; done), by repeat (first | exact Drawn0.refl _ | apply Drawn0.step)⟩
  · rw [if_neg c4] at H
    have c4b0 : (t149 == 0) = false := beq_eq_false_iff_ne.mpr c4
    have c4b1 : (t149 != 0) = true := bne_iff_ne.mpr c4
    simp only [Option.some.injEq, Prod.mk.injEq] at H
    obtain ⟨rfl, rfl⟩ := H
    go_enter Try.func26, Try.ntmps26
    go_wp2_with (first | (go_at_call 35; (with_reducible refine (slabvaultref13_Fit.calls k _ _ l0 _ _ l1 t149 _ ?side1 ?side2 ?side3 ?side4 A3.out).mono ?_); (case side1 => repeat (first | exact HR0.out | (with_reducible refine Kd.C_alloc ?_ _) | (with_reducible refine Kd.C_drewN ?_ _) | (with_reducible refine Kd.C_drew ?_))); (case side2 => exact HC0.out); (case side3 => repeat (first | exact HR1.out | (with_reducible refine Kd.C_alloc ?_ _) | (with_reducible refine Kd.C_drewN ?_ _) | (with_reducible refine Kd.C_drew ?_))); (case side4 => exact HC1.out); rintro e w' ⟨rfl, ⟨nd, rfl⟩⟩; (try first | exact ⟨rfl, _, World.drewN_drewN _ _ _⟩ | exact ⟨rfl, _, Eq.trans (World.drewN_drewN _ _ _) (congrArg (World.drewN _) (Nat.add_assoc _ _ _))⟩)))
    repeat (go_quiet (first | (go_at_call 35; (with_reducible refine (slabvaultref13_Fit.calls k _ _ l0 _ _ l1 t149 _ ?side1 ?side2 ?side3 ?side4 A3.out).mono ?_); (case side1 => repeat (first | exact HR0.out | (with_reducible refine Kd.C_alloc ?_ _) | (with_reducible refine Kd.C_drewN ?_ _) | (with_reducible refine Kd.C_drew ?_))); (case side2 => exact HC0.out); (case side3 => repeat (first | exact HR1.out | (with_reducible refine Kd.C_alloc ?_ _) | (with_reducible refine Kd.C_drewN ?_ _) | (with_reducible refine Kd.C_drew ?_))); (case side4 => exact HC1.out); rintro e w' ⟨rfl, ⟨nd, rfl⟩⟩; (try first | exact ⟨rfl, _, World.drewN_drewN _ _ _⟩ | exact ⟨rfl, _, Eq.trans (World.drewN_drewN _ _ _) (congrArg (World.drewN _) (Nat.add_assoc _ _ _))⟩))); try go_wp2_with (first | (go_at_call 35; (with_reducible refine (slabvaultref13_Fit.calls k _ _ l0 _ _ l1 t149 _ ?side1 ?side2 ?side3 ?side4 A3.out).mono ?_); (case side1 => repeat (first | exact HR0.out | (with_reducible refine Kd.C_alloc ?_ _) | (with_reducible refine Kd.C_drewN ?_ _) | (with_reducible refine Kd.C_drew ?_))); (case side2 => exact HC0.out); (case side3 => repeat (first | exact HR1.out | (with_reducible refine Kd.C_alloc ?_ _) | (with_reducible refine Kd.C_drewN ?_ _) | (with_reducible refine Kd.C_drew ?_))); (case side4 => exact HC1.out); rintro e w' ⟨rfl, ⟨nd, rfl⟩⟩; (try first | exact ⟨rfl, _, World.drewN_drewN _ _ _⟩ | exact ⟨rfl, _, Eq.trans (World.drewN_drewN _ _ _) (congrArg (World.drewN _) (Nat.add_assoc _ _ _))⟩))))
    go_ret2
    exact ⟨by first | rfl | (simp; done) | (simp [*]; done), by repeat (first | exact Drawn0.refl _ | apply Drawn0.step)⟩
end Go.Proofs.Ytjbjofmcmjojlab.Wk
end
section
namespace Go.Proofs.Ytjbjofmcmjojlab.Wk
open Go.RowKit Go.Proofs.YtjbjofmcmjojlabW.PrintWords Go.Proofs.YtjbjofmcmjojlabW.PrintLast Go.Proofs.YtjbjofmcmjojlabW.PrintMore
attribute [local go_sem] max2_int min2_int max_two min_two max_three min_three max_four min_four
set_option linter.unusedVariables false
set_option linter.unusedSimpArgs false
section
def ofLoop (A S : List Int) : Nat → Nat → List Int → List Int → List Int × List Int × Int
  | 0, _, x, y => (x, y, 0)
  | d + 1, i, x, y => if rd A i < 0 ∨ rd S i < 1 ∨ 1048576 < rd S i then ([], [], 2) else ofLoop A S d (i + 1) (x ++ [rd A i / rd S i]) (y ++ [rd A i % rd S i])
def grid_Of.f (l0 : List Int) (l1 : List Int) : Option (List Int × List Int × Int) :=
  if (∀ x ∈ l0, x ≤ 9223372036854775807) ∧ l0.length ≤ 9223372036854775807 ∧ l1.length ≤ 9223372036854775807 then some (if 4 < l0.length ∨ l0.length ≠ l1.length then ([], [], 2) else ofLoop l0 l1 l0.length 0 [] []) else none
set_option maxHeartbeats 4000000 in
set_option maxRecDepth 10000 in
theorem grid_Of.calls (A0 : Option Addr) (c0 : Nat) (l0 : List Int) (A1 : Option Addr) (c1 : Nat) (l1 : List Int) (r1 : List Int) (r2 : List Int) (r3 : Int) (w : World) (hr0 : Kd.C (Kd.int .i64) w A0 l0.length l0) (hc0 : l0.length ≤ c0) (hr1 : Kd.C (Kd.int .i64) w A1 l1.length l1) (hc1 : l1.length ≤ c1) (h : grid_Of.f l0 l1 = some (r1, r2, r3)) :
    Calls Try.prog 27 #[.slice A0 l0.length c0, .slice A1 l1.length c1] w fun e w' => ∃ v0_ v1_ : Value, e = .returned (.tuple #[v0_, v1_, .int .i64 r3]) ∧ Kd.R (Kd.int .i64) 3 w' w.heap.size (fun k_ => some k_ ≠ (v1_ : Value).ownBlock) v0_ r1 ∧ Kd.R (Kd.int .i64) 3 w' w.heap.size (fun k_ => some k_ ≠ (v0_ : Value).ownBlock) v1_ r2 ∧ Below w.heap.size w w' := by
  unfold grid_Of.f at h
  split at h
  case isFalse => cases h
  case isTrue hx =>
  have hl0 := hx.2.1
  have hl1 := hx.2.2
  have HX := Aside0.mk hx.1
  have HR0 := Aside0.mk hr0
  have HC0 := Aside0.mk hc0
  have HR1 := Aside0.mk hr1
  have HC1 := Aside0.mk hc1
  have HH := Aside0.mk (Option.some.inj h)
  clear h hr0 hc0 hr1 hc1 hx
  by_cases h4 : 4 < l0.length
  · have d1 : decide ((l0.length : Int) > 4) = true := by simp; omega
    have d2 : decide (4 < l0.length) = true := by simp; omega
    have hr := HH.out
    rw [if_pos (.inl h4)] at hr
    cases hr
    clear hl0 hl1
    go_enter Try.func27, Try.ntmps27
    go_wp2
    go_ret3
    exact ⟨_, _, rfl, Kd.R_nil _ _ _ _ _, Kd.R_nil _ _ _ _ _, Below.refl _ _⟩
  have d1 : decide ((l0.length : Int) > 4) = false := by simp; omega
  have d2 : decide (4 < l0.length) = false := by simp; omega
  by_cases hs : l0.length = l1.length
  case neg =>
    have e1 : ((l0.length : Int) == (l1.length : Int)) = false := by simpa using (show ¬ ((l0.length : Int) = (l1.length : Int)) by omega)
    have e2 : ((l0.length : Int) = (l1.length : Int)) = False := eq_false (by omega)
    have e3 : ((l0.length : Int) != (l1.length : Int)) = true := by simpa using (show ¬ ((l0.length : Int) = (l1.length : Int)) by omega)
    have hr := HH.out
    rw [if_pos (.inr hs)] at hr
    cases hr
    clear hl0 hl1
    go_enter Try.func27, Try.ntmps27
    go_wp2
    go_ret3
    exact ⟨_, _, rfl, Kd.R_nil _ _ _ _ _, Kd.R_nil _ _ _ _ _, Below.refl _ _⟩
  have e1 : ((l0.length : Int) == (l1.length : Int)) = true := by simpa using (show ((l0.length : Int) = (l1.length : Int)) by omega)
  have e2 : ((l0.length : Int) = (l1.length : Int)) = True := eq_true (by omega)
  have e3 : ((l0.length : Int) != (l1.length : Int)) = false := by simpa using (show ((l0.length : Int) = (l1.length : Int)) by omega)
  have hr := HH.out
  rw [if_neg (by rintro (h | h) <;> omega)] at hr
  have HLP := Aside0.mk hr
  have HS := Aside0.mk hs
  have HL4 := Aside0.mk (show l0.length ≤ 4 by omega)
  clear HH hr hs h4
  go_enter Try.func27, Try.ntmps27
  go_upto_region 3 with (fail)
  clear d1 d2 e1 e2 e3 hl0 hl1
  go_wp2
  go_loopg [4, 5, 21] l0.length (fun kq v4 v5 v21 W => ∃ (i : Nat) (x y : List Int), v21 = .int .i64 (i : Int) ∧ Aside0 (i ≤ l0.length ∧ l0.length - i ≤ kq ∧ x.length = i ∧ y.length = i ∧ ofLoop l0 l1 (l0.length - i) i x y = (r1, r2, r3)) ∧ Aside0 (Kd.R (Kd.int .i64) 3 W w.heap.size (fun k_ => some k_ ≠ v5.ownBlock) v4 x) ∧ Aside0 (Kd.R (Kd.int .i64) 3 W w.heap.size (fun k_ => some k_ ≠ v4.ownBlock) v5 y) ∧ Aside0 (Below w.heap.size w W))
  case atStart => exact ⟨0, [], [], rfl, ⟨Nat.zero_le _, by omega, rfl, rfl, HLP.out⟩, ⟨Kd.R_nil _ _ _ _ _⟩, ⟨Kd.R_nil _ _ _ _ _⟩, ⟨Below.refl _ _⟩⟩
  case round =>
    obtain ⟨i, x, y, rfl, HI, HRX, HRY, HB⟩ := hrel
    clear HLP
    by_cases hi : i < l0.length
    case neg =>
      have n1 : (i < l0.length) = False := eq_false hi
      have d1 : decide ((i : Int) < (l0.length : Int)) = false := by simp; omega
      have hr := HI.out.2.2.2.2
      rw [show l0.length - i = 0 by omega] at hr
      cases hr
      clear hi
      go_wp2
      go_ret3
      exact ⟨_, _, rfl, HRX.out, HRY.out, HB.out⟩
    have hr := HI.out.2.2.2.2
    rw [show l0.length - i = (l0.length - (i + 1)) + 1 by omega] at hr
    simp only [ofLoop] at hr
    have n1 : (i < l0.length) = True := eq_true hi
    have n2 : (i < l1.length) = True := eq_true (by have := HS.out; omega)
    have d1 : decide ((i : Int) < (l0.length : Int)) = true := by simp; omega
    have p1 : (0 ≤ (i : Int)) = True := eq_true (by omega)
    obtain ⟨ad0, e0, hx0⟩ := Kd.at_int (Kd.C_below HR0.out HB.out) (i : Int) (by omega) (by omega)
    obtain ⟨ad1, e1, hw1⟩ := Kd.at_int HR1.out (i : Int) (by omega) (by have := HS.out; omega)
    cases e0
    cases e1
    rw [Int.toNat_natCast] at hx0 hw1
    have hx1 := (HB.out.cell (World.block_lt_of_cell? w _ hw1)).trans hw1
    have hmax : rd l0 (i : Int) ≤ 9223372036854775807 := by
      have := HX.out (l0[i]) (List.getElem_mem hi)
      simpa [rd, hi] using this
    generalize ha : rd l0 (i : Int) = a at hr hx0 hmax
    generalize hb : rd l1 (i : Int) = b at hr hx1 hw1
    clear ha hb
    by_cases c1 : a < 0
    · rw [if_pos (.inl c1)] at hr
      cases hr
      have d2 : decide (a < 0) = true := by simpa using c1
      clear hi
      go_wp2
      go_ret3
      exact ⟨_, _, rfl, Kd.R_nil _ _ _ _ _, Kd.R_nil _ _ _ _ _, HB.out⟩
    have d2 : decide (a < 0) = false := by simpa using c1
    by_cases c2 : b < 1
    · rw [if_pos (.inr (.inl c2))] at hr
      cases hr
      have d3 : decide (b < 1) = true := by simpa using c2
      clear hi c1
      go_wp2
      go_ret3
      exact ⟨_, _, rfl, Kd.R_nil _ _ _ _ _, Kd.R_nil _ _ _ _ _, HB.out⟩
    have d3 : decide (b < 1) = false := by simpa using c2
    by_cases c3 : 1048576 < b
    · rw [if_pos (.inr (.inr c3))] at hr
      cases hr
      have d4 : decide (b > 1048576) = true := by simpa using c3
      have d5 : decide (1048576 < b) = true := by simpa using c3
      clear hi c1 c2
      go_wp2
      go_ret3
      exact ⟨_, _, rfl, Kd.R_nil _ _ _ _ _, Kd.R_nil _ _ _ _ _, HB.out⟩
    have d4 : decide (b > 1048576) = false := by simpa using c3
    have d5 : decide (1048576 < b) = false := by simpa using c3
    rw [if_neg (by rintro (h | h | h) <;> omega)] at hr
    have hb0 : (b = 0) = False := eq_false (by omega)
    have hb1 : (b == 0) = false := by simp; omega
    have hdiv : 0 ≤ a / b ∧ a / b ≤ a := ⟨Int.ediv_nonneg (by omega) (by omega), Int.ediv_le_self _ (by omega)⟩
    have hmod : 0 ≤ a % b ∧ a % b < b := ⟨Int.emod_nonneg _ (by omega), Int.emod_lt_of_pos _ (by omega)⟩
    have hq : wrap64 (Int.tdiv a b) = a / b := by rw [Int.tdiv_eq_ediv_of_nonneg (by omega)]; unfold wrap64; omega
    have hqw : wrap64 (a / b) = a / b := by unfold wrap64; omega
    have hmw : wrap64 (a % b) = a % b := by unfold wrap64; omega
    have hq2 : Int.tdiv a b = a / b := Int.tdiv_eq_ediv_of_nonneg (by omega)
    have hm : Int.tmod a b = a % b := Int.tmod_eq_emod_of_nonneg (by omega)
    have HR := Aside0.mk hr
    have HIL := Aside0.mk hi
    clear hi c1 c2 c3 hmax hr
    go_wp2_with (first
      | ((with_reducible refine gate_builtin (b := .append) (xs := #[.tmp 42, .tmp 49]) rfl ?_); at_builtin; refine Kd.R_append (Kd.int .i64) (w0 := w) w.heap.size rfl (.tmp 42) (.tmp 49) 22 3 (.int .i64 0) 8 rfl Try.underlying22 (by kernel_rfl) rfl (by decide) (by omega) u4 x (a / b) [.int .i64 (a / b)] (fun k_ => some k_ ≠ (u5 : Value).ownBlock) (fun _ => False) rfl rfl ?aP (fun _ hk => hk.elim) ?aF ?aO ?aB ?aS ?aL ?_; (case aP => exact rfl); (case aB => exact HB.out); (case aF => exact (fun k_ hk => Kd.fresh' (Kd.R_lt HRY.out) k_ hk)); (case aO => exact HRX.out); (case aS => exact HB.out.size); (case aL => have h1 := HI.out; have h2 := HL4.out; omega); intro v4 w1 ho hb hg hat; have HX1 := Aside0.mk ho; have HB1 := Aside0.mk hb; have HY1 := Aside0.mk (Kd.R_mono (Kd.R_after (ok := (fun _ => True)) (Kd.R_mono HRY.out (fun _ hk => ⟨trivial, hk⟩)) hg hat) (fun _ hk => hk.2)); replace hx1 := (HB1.out.cell (World.block_lt_of_cell? w _ hw1)).trans hw1; clear ho hb hg hat HRX HRY)
      | ((with_reducible refine gate_builtin (b := .append) (xs := #[.tmp 51, .tmp 58]) rfl ?_); at_builtin; refine Kd.R_append (Kd.int .i64) (w0 := w) w.heap.size rfl (.tmp 51) (.tmp 58) 22 3 (.int .i64 0) 8 rfl Try.underlying22 (by kernel_rfl) rfl (by decide) (by omega) u5 y (a % b) [.int .i64 (a % b)] (fun k_ => some k_ ≠ (v4 : Value).ownBlock) (fun _ => False) rfl rfl ?aP (fun _ hk => hk.elim) ?aF ?aO ?aB ?aS ?aL ?_; (case aP => exact rfl); (case aB => exact HB1.out); (case aF => exact (fun k_ hk => Kd.fresh' (Kd.R_lt HX1.out) k_ hk)); (case aO => exact HY1.out); (case aS => exact HB1.out.size); (case aL => have h1 := HI.out; have h2 := HL4.out; omega); intro v5 w2 ho hb hg hat; have HY2 := Aside0.mk ho; have HB2 := Aside0.mk hb; have HX2 := Aside0.mk (Kd.R_mono (Kd.R_after (ok := (fun _ => True)) (Kd.R_mono HX1.out (fun _ hk => ⟨trivial, hk⟩)) hg hat) (fun _ hk => hk.2)); clear ho hb hg hat))
    go_roundg (gk - 1)
    case measure => have := HI.out; have := HIL.out; omega
    case rel => exact ⟨i + 1, x ++ [a / b], y ++ [a % b], by have := HL4.out; have := HIL.out; rw [show wrap64 ((i : Int) + 1) = ((i + 1 : Nat) : Int) by unfold wrap64; omega], ⟨by have := HIL.out; omega, by have := HI.out; have := HIL.out; omega, by have := HI.out; simp; omega, by have := HI.out; simp; omega, HR.out⟩, HX2, HY2, HB2⟩
end
end Go.Proofs.Ytjbjofmcmjojlab.Wk
end
section
namespace Go.Proofs.Ytjbjofmcmjojlab.Wk
open Go.RowKit Go.Proofs.YtjbjofmcmjojlabW.PrintWords Go.Proofs.YtjbjofmcmjojlabW.PrintLast Go.Proofs.YtjbjofmcmjojlabW.PrintMore
attribute [local go_sem] max2_int min2_int max_two min_two max_three min_three max_four min_four
set_option linter.unusedVariables false
set_option linter.unusedSimpArgs false
mutual
def slabvaultref13_Of.j0 : Nat → List Int → List Int → Bool → Option (List Int × List Int × Int)
  | 0, _, _, _ => none
  | k + 1, x0, x1, x19 => if x19 = true then (some (([] : List Int), ([] : List Int), 2)) else (slabvaultref13_Of.l0 k x0 x1 ([] : List Int) ([] : List Int) 0)
def slabvaultref13_Of.l0 : Nat → List Int → List Int → List Int → List Int → Int → Option (List Int × List Int × Int)
  | 0, _, _, _, _, _ => none
  | k + 1, x0, x1, x7, x8, x9 => if x9 < (x0.length : Int) then (if 0 ≤ x9 then (if (rd x0 x9) < 0 then (some (([] : List Int), ([] : List Int), 2)) else (if x9 < (x1.length : Int) then (if (rd x1 x9) < 1 then (some (([] : List Int), ([] : List Int), 2)) else (if (rd x1 x9) > 1048576 then (some (([] : List Int), ([] : List Int), 2)) else (if (rd x1 x9) = 0 then (none) else (if x7.length < 17592186044416 then (if x8.length < 17592186044416 then (slabvaultref13_Of.l0 k x0 x1 (x7 ++ [wrap64 (Int.tdiv (rd x0 x9) (rd x1 x9))]) (x8 ++ [Int.tmod (rd x0 x9) (rd x1 x9)]) (wrap64 (x9 + 1))) else (none)) else (none))))) else (none))) else (none)) else (some (x7, x8, 0))
end
def slabvaultref13_Of.f (k : Nat) (l0 : List Int) (l1 : List Int) : Option (List Int × List Int × Int) := if (l0.length : Int) > 4 then (slabvaultref13_Of.j0 k l0 l1 true) else (slabvaultref13_Of.j0 k l0 l1 ((l0.length : Int) != (l1.length : Int)))
def slabvaultref13_Of.T9 : Bool × List (List Nat × List Nat) := (true, [([], []), ([], []), ([], []), ([1, 2], [1, 2]), ([3], [3]), ([], []), ([], []), ([5, 6], [5, 6]), ([7], [7]), ([4, 8], [4, 8]), ([9], [9]), ([0, 10], [0, 10]), ([11, 11, 0, 1, 2, 3, 4, 5, 6, 7, 8, 9, 10, 11], [0, 11])])
def slabvaultref13_Of.B9 : List Nat := [0, 0, 0, 6, 14, 0, 0, 96, 224, 510, 1022, 2047, 4095]
theorem slabvaultref13_Of.tab9 : rtab .any (opsOf Try.f28 9) = slabvaultref13_Of.T9 := by kernel_rfl
theorem slabvaultref13_Of.bits9 : waitsOk slabvaultref13_Of.T9.2 slabvaultref13_Of.B9 = true := by kernel_rfl
def slabvaultref13_Of.T10 : Bool × List (List Nat × List Nat) := (true, [([], []), ([], []), ([], []), ([1, 2], [1, 2]), ([3], [3]), ([], []), ([], []), ([5, 6], [5, 6]), ([7], [7]), ([4, 8], [4, 8]), ([9], [9]), ([0, 10], [0, 10]), ([11, 11, 0, 1, 2, 3, 4, 5, 6, 7, 8, 9, 10, 11], [0, 11])])
def slabvaultref13_Of.B10 : List Nat := [0, 0, 0, 6, 14, 0, 0, 96, 224, 510, 1022, 2047, 4095]
theorem slabvaultref13_Of.tab10 : rtab .any (opsOf Try.f28 10) = slabvaultref13_Of.T10 := by kernel_rfl
theorem slabvaultref13_Of.bits10 : waitsOk slabvaultref13_Of.T10.2 slabvaultref13_Of.B10 = true := by kernel_rfl
set_option maxHeartbeats 8000000 in
set_option maxRecDepth 100000 in
theorem slabvaultref13_Of.calls (k : Nat) (A0 : Option Addr) (c0 : Nat) (l0 : List Int) (A1 : Option Addr) (c1 : Nat) (l1 : List Int) (r1 : List Int) (r2 : List Int) (r3 : Int) (w : World) (hr0 : Kd.C (Kd.int .i64) w A0 l0.length l0) (hc0 : l0.length ≤ c0) (hr1 : Kd.C (Kd.int .i64) w A1 l1.length l1) (hc1 : l1.length ≤ c1) (h : slabvaultref13_Of.f k l0 l1 = some (r1, r2, r3)) :
    Calls Try.prog 28 #[.slice A0 l0.length c0, .slice A1 l1.length c1] w fun e w' => ∃ v0_ v1_ : Value, e = .returned (.tuple #[v0_, v1_, .int .i64 r3]) ∧ Kd.R (Kd.int .i64) 3 w' w.heap.size (fun k_ => some k_ ≠ (v1_ : Value).ownBlock) v0_ r1 ∧ Kd.R (Kd.int .i64) 3 w' w.heap.size (fun k_ => some k_ ≠ (v0_ : Value).ownBlock) v1_ r2 ∧ Below w.heap.size w w' := by
  have HR0 := Aside0.mk hr0
  have HC0 := Aside0.mk hc0
  clear hr0 hc0
  have HR1 := Aside0.mk hr1
  have HC1 := Aside0.mk hc1
  clear hr1 hc1
  have HB := Aside0.mk (Below.refl w.heap.size w)
  have H : (if (l0.length : Int) > 4 then (slabvaultref13_Of.j0 k l0 l1 true) else (slabvaultref13_Of.j0 k l0 l1 ((l0.length : Int) != (l1.length : Int)))) = some (r1, r2, r3) := h
  clear h
  have HC3 := Aside0.mk H
  clear H
  go_enter Try.func28, Try.ntmps28
  go_upto_region 1 with (fail)
  go_cut [19] (fun v19 wc => ∃ (kq : Nat) (x19_2 : Bool), v19 = .bool x19_2 ∧ Aside0 (slabvaultref13_Of.j0 kq l0 l1 x19_2 = some (r1, r2, r3)) ∧ Aside0 (kq ≤ k) ∧ Aside0 (Below w.heap.size w wc))
  case first =>
    have H := HC3.out
    clear HC3
    by_cases c4 : (l0.length : Int) > 4
    · rw [if_pos c4] at H
      have c4b0 : decide (4 < (l0.length : Int)) = true := decide_eq_true c4
      have c4b1 : decide (4 < l0.length) = true := decide_eq_true (by omega)
      clear c4
      (first | rw [c4b0] | (simp only [i64_w, i32_w]; rw [c4b0]) | skip)
      have H' := Aside0.mk H
      clear H
      go_wp2
      go_meet
      case rel => exact ⟨_, (true), (by first | rfl | (simp; done) | (simp [*]; done)), H', ⟨by first | omega | exact Nat.le_refl _⟩, ⟨by repeat (first | (with_reducible first | exact HB.out | apply below_alloc | apply pw_below_drewN | apply below_drew1) | exact HB.out)⟩⟩
    · rw [if_neg c4] at H
      have c4b0 : decide (4 < (l0.length : Int)) = false := decide_eq_false c4
      have c4b1 : decide (4 < l0.length) = false := decide_eq_false (by omega)
      clear c4
      (first | rw [c4b0] | (simp only [i64_w, i32_w]; rw [c4b0]) | skip)
      have H' := Aside0.mk H
      clear H
      go_wp2
      go_meet
      case rel => exact ⟨_, (((l0.length : Int) != (l1.length : Int))), (by first | rfl | (simp; done) | (simp [*]; done)), H', ⟨by first | omega | exact Nat.le_refl _⟩, ⟨by repeat (first | (with_reducible first | exact HB.out | apply below_alloc | apply pw_below_drewN | apply below_drew1) | exact HB.out)⟩⟩
  case rest =>
    clear HC3
    try clear c1
    try clear c2
    try clear p2
    try clear c4
    try clear c4b0
    try clear c4b1
    obtain ⟨kq, x19_2, rfl, HA, HJ2, HB⟩ := hcut
    cases kq with
    | zero => exact absurd HA.out (by simp [slabvaultref13_Of.j0])
    | succ kj2 =>
      have H := HA.out
      clear HA
      simp only [slabvaultref13_Of.j0] at H
      by_cases c5 : x19_2 = true
      · subst c5
        have H1 : (some (([] : List Int), ([] : List Int), 2)) = some (r1, r2, r3) := by rw [if_pos rfl] at H; exact H
        clear H
        have H := H1
        clear H1
        simp only [Option.some.injEq, Prod.mk.injEq] at H
        obtain ⟨rfl, rfl, rfl⟩ := H
        go_wp2
        go_ret3
        exact ⟨_, _, by first | rfl | (simp [errW_none, errW_some] <;> rfl) | (simp [*, errW_none, errW_some] <;> rfl), by first | exact Kd.R_nil _ _ _ _ _ | exact Kd.N_nil _ _ _ _ _ | exact Kd.V_nil _ _ _ _ _ | exact Kd.Q_nil _ _ _ _ _ | exact Kd.S_nil _ _ _ _ _, by first | exact Kd.R_nil _ _ _ _ _ | exact Kd.N_nil _ _ _ _ _ | exact Kd.V_nil _ _ _ _ _ | exact Kd.Q_nil _ _ _ _ _ | exact Kd.S_nil _ _ _ _ _, by repeat (first | (with_reducible first | exact HB.out | apply below_alloc | apply pw_below_drewN | apply below_drew1) | exact HB.out)⟩
      · replace c5 := Bool.eq_false_iff.mpr c5
        subst c5
        have H1 : (slabvaultref13_Of.l0 kj2 l0 l1 ([] : List Int) ([] : List Int) 0) = some (r1, r2, r3) := by rw [if_neg (show ¬ (false = true) by decide)] at H; exact H
        clear H
        have H := H1
        clear H1
        have H' := Aside0.mk H
        clear H
        go_wp2
        go_loopg [7, 8, 9] kj2 (fun kq v7 v8 v9 w' => ∃ (x7_2 : List Int) (x8_2 : List Int) (x9_2 : Int), v9 = .int .i64 x9_2 ∧ Aside0 (slabvaultref13_Of.l0 kq l0 l1 x7_2 x8_2 x9_2 = some (r1, r2, r3)) ∧ Aside0 (kq ≤ kj2) ∧ Aside0 (Kd.R (Kd.int .i64) 3 w' w.heap.size (fun k_ => some k_ ≠ (v8 : Value).ownBlock) v7 x7_2) ∧ Aside0 (Kd.R (Kd.int .i64) 3 w' w.heap.size (fun k_ => some k_ ≠ (v7 : Value).ownBlock) v8 x8_2) ∧ Aside0 (Below w.heap.size w w'))
        case atStart => exact ⟨(([] : List Int)), (([] : List Int)), (0), (by first | rfl | (simp; done) | (simp [*]; done)), H', ⟨Nat.le_refl _⟩, ⟨by first | exact Kd.R_nil _ _ _ _ _ | exact Kd.N_nil _ _ _ _ _ | exact Kd.V_nil _ _ _ _ _ | exact Kd.Q_nil _ _ _ _ _ | exact Kd.S_nil _ _ _ _ _⟩, ⟨by first | exact Kd.R_nil _ _ _ _ _ | exact Kd.N_nil _ _ _ _ _ | exact Kd.V_nil _ _ _ _ _ | exact Kd.Q_nil _ _ _ _ _ | exact Kd.S_nil _ _ _ _ _⟩, ⟨by repeat (first | (with_reducible first | exact HB.out | apply below_alloc | apply pw_below_drewN | apply below_drew1) | exact HB.out)⟩⟩
        case round =>
          clear H'
          try clear c1
          try clear c2
          try clear p2
          try clear c4
          try clear c4b0
          try clear c4b1
          try clear c5
          try clear p2
          obtain ⟨x7_2, x8_2, x9_2, rfl, HA, HK2, HO_7, HO_8, HB⟩ := hrel
          cases gk with
          | zero => exact absurd HA.out (by simp [slabvaultref13_Of.l0])
          | succ k2 =>
            have H := HA.out
            clear HA
            simp only [slabvaultref13_Of.l0] at H
            by_cases c6 : x9_2 < (l0.length : Int)
            · rw [if_pos c6] at H
              have c6b0 : decide (x9_2 < (l0.length : Int)) = true := decide_eq_true c6
              clear c6
              by_cases c7 : 0 ≤ x9_2
              · rw [if_pos c7] at H
                have c7b0 : decide (0 ≤ x9_2) = true := decide_eq_true c7
                clear c7
                by_cases c8 : (rd l0 x9_2) < 0
                · rw [if_pos c8] at H
                  have c8b0 : decide ((rd l0 x9_2) < 0) = true := decide_eq_true c8
                  clear c8
                  simp only [Option.some.injEq, Prod.mk.injEq] at H
                  obtain ⟨rfl, rfl, rfl⟩ := H
                  have p153 : 0 ≤ (x9_2 : Int) := of_decide_eq_true (by first | (with_reducible assumption) | assumption)
                  have q153 : x9_2 < (l0.length : Int) := of_decide_eq_true (by first | (with_reducible assumption) | assumption)
                  obtain ⟨ad153, e153, hx153_0⟩ := Kd.at_int HR0.out x9_2 p153 q153
                  cases e153
                  replace hx153_0 := (HB.out.cell (World.block_lt_of_cell? w _ hx153_0)).trans hx153_0
                  replace p153 := eq_true p153
                  replace q153 := eq_true q153
                  go_wp2
                  go_ret3
                  exact ⟨_, _, by first | rfl | (simp [errW_none, errW_some] <;> rfl) | (simp [*, errW_none, errW_some] <;> rfl), by first | exact Kd.R_nil _ _ _ _ _ | exact Kd.N_nil _ _ _ _ _ | exact Kd.V_nil _ _ _ _ _ | exact Kd.Q_nil _ _ _ _ _ | exact Kd.S_nil _ _ _ _ _, by first | exact Kd.R_nil _ _ _ _ _ | exact Kd.N_nil _ _ _ _ _ | exact Kd.V_nil _ _ _ _ _ | exact Kd.Q_nil _ _ _ _ _ | exact Kd.S_nil _ _ _ _ _, by repeat (first | (with_reducible first | exact HB.out | apply below_alloc | apply pw_below_drewN | apply below_drew1) | exact HB.out)⟩
                · rw [if_neg c8] at H
                  have c8b0 : decide ((rd l0 x9_2) < 0) = false := decide_eq_false c8
                  clear c8
                  by_cases c9 : x9_2 < (l1.length : Int)
                  · rw [if_pos c9] at H
                    have c9b0 : decide (x9_2 < (l1.length : Int)) = true := decide_eq_true c9
                    clear c9
                    by_cases c10 : (rd l1 x9_2) < 1
                    · rw [if_pos c10] at H
                      have c10b0 : decide ((rd l1 x9_2) < 1) = true := decide_eq_true c10
                      clear c10
                      simp only [Option.some.injEq, Prod.mk.injEq] at H
                      obtain ⟨rfl, rfl, rfl⟩ := H
                      have p153 : 0 ≤ (x9_2 : Int) := of_decide_eq_true (by first | (with_reducible assumption) | assumption)
                      have q153 : x9_2 < (l0.length : Int) := of_decide_eq_true (by first | (with_reducible assumption) | assumption)
                      obtain ⟨ad153, e153, hx153_0⟩ := Kd.at_int HR0.out x9_2 p153 q153
                      cases e153
                      replace hx153_0 := (HB.out.cell (World.block_lt_of_cell? w _ hx153_0)).trans hx153_0
                      replace p153 := eq_true p153
                      replace q153 := eq_true q153
                      have p154 : 0 ≤ (x9_2 : Int) := of_decide_eq_true (by first | (with_reducible assumption) | assumption)
                      have q154 : x9_2 < (l1.length : Int) := of_decide_eq_true (by first | (with_reducible assumption) | assumption)
                      obtain ⟨ad154, e154, hx154_0⟩ := Kd.at_int HR1.out x9_2 p154 q154
                      cases e154
                      replace hx154_0 := (HB.out.cell (World.block_lt_of_cell? w _ hx154_0)).trans hx154_0
                      replace p154 := eq_true p154
                      replace q154 := eq_true q154
                      go_wp2
                      go_ret3
                      exact ⟨_, _, by first | rfl | (simp [errW_none, errW_some] <;> rfl) | (simp [*, errW_none, errW_some] <;> rfl), by first | exact Kd.R_nil _ _ _ _ _ | exact Kd.N_nil _ _ _ _ _ | exact Kd.V_nil _ _ _ _ _ | exact Kd.Q_nil _ _ _ _ _ | exact Kd.S_nil _ _ _ _ _, by first | exact Kd.R_nil _ _ _ _ _ | exact Kd.N_nil _ _ _ _ _ | exact Kd.V_nil _ _ _ _ _ | exact Kd.Q_nil _ _ _ _ _ | exact Kd.S_nil _ _ _ _ _, by repeat (first | (with_reducible first | exact HB.out | apply below_alloc | apply pw_below_drewN | apply below_drew1) | exact HB.out)⟩
                    · rw [if_neg c10] at H
                      have c10b0 : decide ((rd l1 x9_2) < 1) = false := decide_eq_false c10
                      clear c10
                      by_cases c11 : (rd l1 x9_2) > 1048576
                      · rw [if_pos c11] at H
                        have c11b0 : decide (1048576 < (rd l1 x9_2)) = true := decide_eq_true c11
                        clear c11
                        simp only [Option.some.injEq, Prod.mk.injEq] at H
                        obtain ⟨rfl, rfl, rfl⟩ := H
                        have p153 : 0 ≤ (x9_2 : Int) := of_decide_eq_true (by first | (with_reducible assumption) | assumption)
                        have q153 : x9_2 < (l0.length : Int) := of_decide_eq_true (by first | (with_reducible assumption) | assumption)
                        obtain ⟨ad153, e153, hx153_0⟩ := Kd.at_int HR0.out x9_2 p153 q153
                        cases e153
                        replace hx153_0 := (HB.out.cell (World.block_lt_of_cell? w _ hx153_0)).trans hx153_0
                        replace p153 := eq_true p153
                        replace q153 := eq_true q153
                        have p154 : 0 ≤ (x9_2 : Int) := of_decide_eq_true (by first | (with_reducible assumption) | assumption)
                        have q154 : x9_2 < (l1.length : Int) := of_decide_eq_true (by first | (with_reducible assumption) | assumption)
                        obtain ⟨ad154, e154, hx154_0⟩ := Kd.at_int HR1.out x9_2 p154 q154
                        cases e154
                        replace hx154_0 := (HB.out.cell (World.block_lt_of_cell? w _ hx154_0)).trans hx154_0
                        replace p154 := eq_true p154
                        replace q154 := eq_true q154
                        have p155 : 0 ≤ (x9_2 : Int) := of_decide_eq_true (by first | (with_reducible assumption) | assumption)
                        have q155 : x9_2 < (l1.length : Int) := of_decide_eq_true (by first | (with_reducible assumption) | assumption)
                        obtain ⟨ad155, e155, hx155_0⟩ := Kd.at_int HR1.out x9_2 p155 q155
                        obtain rfl : ad154 = ad155 := (by injection e155)
                        replace hx155_0 := (HB.out.cell (World.block_lt_of_cell? w _ hx155_0)).trans hx155_0
                        replace p155 := eq_true p155
                        replace q155 := eq_true q155
                        go_wp2
                        go_ret3
                        exact ⟨_, _, by first | rfl | (simp [errW_none, errW_some] <;> rfl) | (simp [*, errW_none, errW_some] <;> rfl), by first | exact Kd.R_nil _ _ _ _ _ | exact Kd.N_nil _ _ _ _ _ | exact Kd.V_nil _ _ _ _ _ | exact Kd.Q_nil _ _ _ _ _ | exact Kd.S_nil _ _ _ _ _, by first | exact Kd.R_nil _ _ _ _ _ | exact Kd.N_nil _ _ _ _ _ | exact Kd.V_nil _ _ _ _ _ | exact Kd.Q_nil _ _ _ _ _ | exact Kd.S_nil _ _ _ _ _, by repeat (first | (with_reducible first | exact HB.out | apply below_alloc | apply pw_below_drewN | apply below_drew1) | exact HB.out)⟩
                      · rw [if_neg c11] at H
                        have c11b0 : decide (1048576 < (rd l1 x9_2)) = false := decide_eq_false c11
                        clear c11
                        by_cases c12 : (rd l1 x9_2) = 0
                        · rw [if_pos c12] at H
                          exact absurd H (by simp)
                        · rw [if_neg c12] at H
                          have c12b0 : ((rd l1 x9_2) == 0) = false := beq_eq_false_iff_ne.mpr c12
                          have c12b1 : ((rd l1 x9_2) != 0) = true := bne_iff_ne.mpr c12
                          by_cases c13 : x7_2.length < 17592186044416
                          · rw [if_pos c13] at H
                            have LMc13 := Aside0.mk c13
                            clear c13
                            obtain ⟨y158, hy158⟩ : ∃ y_ : List Int, y_ = (x7_2 ++ [wrap64 (Int.tdiv (rd l0 x9_2) (rd l1 x9_2))]) := ⟨_, rfl⟩
                            replace H : (if x8_2.length < 17592186044416 then (slabvaultref13_Of.l0 k2 l0 l1 y158 (x8_2 ++ [Int.tmod (rd l0 x9_2) (rd l1 x9_2)]) (wrap64 (x9_2 + 1))) else (none)) = some (r1, r2, r3) := by first | (rw [hy158]; with_reducible exact H) | (have H2_ := (Option.bind_some _ _).symm.trans H; rw [hy158]; with_reducible exact H2_) | (have H2_ := (Option.bind_some _ _).symm.trans H; with_reducible exact H2_) | with_reducible exact H | (rw [hy158]; exact H) | exact H
                            have Ny158 := Aside0.mk hy158
                            clear hy158
                            by_cases c14 : x8_2.length < 17592186044416
                            · rw [if_pos c14] at H
                              have LMc14 := Aside0.mk c14
                              clear c14
                              obtain ⟨y163, hy163⟩ : ∃ y_ : List Int, y_ = (x8_2 ++ [Int.tmod (rd l0 x9_2) (rd l1 x9_2)]) := ⟨_, rfl⟩
                              replace H : (slabvaultref13_Of.l0 k2 l0 l1 y158 y163 (wrap64 (x9_2 + 1))) = some (r1, r2, r3) := by first | (rw [hy163]; with_reducible exact H) | (have H2_ := (Option.bind_some _ _).symm.trans H; rw [hy163]; with_reducible exact H2_) | (have H2_ := (Option.bind_some _ _).symm.trans H; with_reducible exact H2_) | with_reducible exact H | (rw [hy163]; exact H) | exact H
                              have Ny163 := Aside0.mk hy163
                              clear hy163
                              have H' := Aside0.mk H
                              clear H
                              have p153 : 0 ≤ (x9_2 : Int) := of_decide_eq_true (by first | (with_reducible assumption) | assumption)
                              have q153 : x9_2 < (l0.length : Int) := of_decide_eq_true (by first | (with_reducible assumption) | assumption)
                              obtain ⟨ad153, e153, hx153_0⟩ := Kd.at_int HR0.out x9_2 p153 q153
                              cases e153
                              replace hx153_0 := (HB.out.cell (World.block_lt_of_cell? w _ hx153_0)).trans hx153_0
                              replace p153 := eq_true p153
                              replace q153 := eq_true q153
                              have p154 : 0 ≤ (x9_2 : Int) := of_decide_eq_true (by first | (with_reducible assumption) | assumption)
                              have q154 : x9_2 < (l1.length : Int) := of_decide_eq_true (by first | (with_reducible assumption) | assumption)
                              obtain ⟨ad154, e154, hx154_0⟩ := Kd.at_int HR1.out x9_2 p154 q154
                              cases e154
                              replace hx154_0 := (HB.out.cell (World.block_lt_of_cell? w _ hx154_0)).trans hx154_0
                              replace p154 := eq_true p154
                              replace q154 := eq_true q154
                              have p155 : 0 ≤ (x9_2 : Int) := of_decide_eq_true (by first | (with_reducible assumption) | assumption)
                              have q155 : x9_2 < (l1.length : Int) := of_decide_eq_true (by first | (with_reducible assumption) | assumption)
                              obtain ⟨ad155, e155, hx155_0⟩ := Kd.at_int HR1.out x9_2 p155 q155
                              obtain rfl : ad154 = ad155 := (by injection e155)
                              replace hx155_0 := (HB.out.cell (World.block_lt_of_cell? w _ hx155_0)).trans hx155_0
                              replace p155 := eq_true p155
                              replace q155 := eq_true q155
                              try go_wp2
                              have n0_ := Aside0.mk (Kd.R_drew HO_7.out)
                              have n1_ := Aside0.mk (Kd.R_drew HO_8.out)
                              have n2_ := Aside0.mk (below_drew1 HB.out)
                              clear HO_7
                              clear HO_8
                              clear HB
                              have HO_7 := n0_
                              have HO_8 := n1_
                              have HB := n2_
                              clear n0_ n1_ n2_
                              have p156 : 0 ≤ (x9_2 : Int) := of_decide_eq_true (by first | (with_reducible assumption) | assumption)
                              have q156 : x9_2 < (l0.length : Int) := of_decide_eq_true (by first | (with_reducible assumption) | assumption)
                              obtain ⟨ad156, e156, hx156_0⟩ := Kd.at_int HR0.out x9_2 p156 q156
                              have hw156_0 := hx156_0
                              obtain rfl : ad153 = ad156 := (by injection e156)
                              replace hx156_0 := (HB.out.cell (World.block_lt_of_cell? w _ hx156_0)).trans hx156_0
                              replace p156 := eq_true p156
                              replace q156 := eq_true q156
                              have p157 : 0 ≤ (x9_2 : Int) := of_decide_eq_true (by first | (with_reducible assumption) | assumption)
                              have q157 : x9_2 < (l1.length : Int) := of_decide_eq_true (by first | (with_reducible assumption) | assumption)
                              obtain ⟨ad157, e157, hx157_0⟩ := Kd.at_int HR1.out x9_2 p157 q157
                              have hw157_0 := hx157_0
                              obtain rfl : ad154 = ad157 := (by injection e157)
                              replace hx157_0 := (HB.out.cell (World.block_lt_of_cell? w _ hx157_0)).trans hx157_0
                              replace p157 := eq_true p157
                              replace q157 := eq_true q157
                              refine start_ (n := 13) (S := fun w' => w'.cell? (ad153.add (x9_2).toNat) = some (.int .i64 (rd l0 x9_2)) ∧ w'.cell? (ad154.add (x9_2).toNat) = some (.int .i64 (rd l1 x9_2))) (ds := []) #[false, false, false, false, false, false, false, false, false, false, false, false, false] (by kernel_rfl) rfl rfl ⟨((HB.out.cell (World.block_lt_of_cell? w _ hw156_0)).trans hw156_0), ((HB.out.cell (World.block_lt_of_cell? w _ hw157_0)).trans hw157_0)⟩ (fun hHeld => ?_); refine with_tabW slabvaultref13_Of.tab9 slabvaultref13_Of.bits9 (fun HT_ HW_ => ?_)
                              generalize wr.drew = w15 at HO_7 HO_8 HB hx156_0 hx157_0 hHeld ⊢
                              refine pure_ (i := 0) (N := some 45) (v := ?_) (a' := ?_) #[true, false, false, false, false, false, false, false, false, false, false, false, false] rfl rfl (any_of HT_.out (by kernel_rfl)) (fun _ _ _ h => h) (Or.inl ⟨by rfl, ?_⟩) ?_ ?_
                              rotate_left
                              · intro w'
                                go_simp
                                with_reducible rfl
                              rotate_left
                              · simp only [Act.put, List.setIfInBounds_toArray, List.set_cons_zero, List.set_cons_succ, i64_w, i32_w]
                                rfl
                              refine pure_ (i := 1) (N := some 46) (v := ?_) (a' := ?_) #[true, true, false, false, false, false, false, false, false, false, false, false, false] rfl rfl (any_of HT_.out (by kernel_rfl)) (fun _ _ _ h => h) (Or.inl ⟨by rfl, ?_⟩) ?_ ?_
                              rotate_left
                              · intro w'
                                go_simp
                                with_reducible rfl
                              rotate_left
                              · simp only [Act.put, List.setIfInBounds_toArray, List.set_cons_zero, List.set_cons_succ, i64_w, i32_w]
                                rfl
                              refine pure_ (i := 2) (N := some 47) (v := ?_) (a' := ?_) #[true, true, true, false, false, false, false, false, false, false, false, false, false] rfl rfl (any_of HT_.out (by kernel_rfl)) (fun _ _ _ h => h) (Or.inl ⟨by rfl, ?_⟩) ?_ ?_
                              rotate_left
                              · intro w'
                                go_simp
                                with_reducible rfl
                              rotate_left
                              · simp only [Act.put, List.setIfInBounds_toArray, List.set_cons_zero, List.set_cons_succ, i64_w, i32_w]
                                rfl
                              refine pure_ (i := 3) (N := some 48) (v := ?_) (a' := ?_) #[true, true, true, true, false, false, false, false, false, false, false, false, false] rfl rfl (any_of HT_.out (by kernel_rfl)) (fun _ _ _ h => h) (Or.inl ⟨by rfl, ?_⟩) ?_ ?_
                              rotate_left
                              · intro w'
                                go_simp
                                with_reducible rfl
                              rotate_left
                              · simp only [Act.put, List.setIfInBounds_toArray, List.set_cons_zero, List.set_cons_succ, i64_w, i32_w]
                                rfl
                              refine pure_ (i := 5) (N := some 50) (v := ?_) (a' := ?_) #[true, true, true, true, false, true, false, false, false, false, false, false, false] rfl rfl (any_of HT_.out (by kernel_rfl)) (fun _ _ _ h => h) (Or.inl ⟨by rfl, ?_⟩) ?_ ?_
                              rotate_left
                              · intro w'
                                go_simp
                                with_reducible rfl
                              rotate_left
                              · simp only [Act.put, List.setIfInBounds_toArray, List.set_cons_zero, List.set_cons_succ, i64_w, i32_w]
                                rfl
                              refine pure_ (i := 6) (N := some 51) (v := ?_) (a' := ?_) #[true, true, true, true, false, true, true, false, false, false, false, false, false] rfl rfl (any_of HT_.out (by kernel_rfl)) (fun _ _ _ h => h) (Or.inl ⟨by rfl, ?_⟩) ?_ ?_
                              rotate_left
                              · intro w'
                                go_simp
                                with_reducible rfl
                              rotate_left
                              · simp only [Act.put, List.setIfInBounds_toArray, List.set_cons_zero, List.set_cons_succ, i64_w, i32_w]
                                rfl
                              refine pure_ (i := 7) (N := some 52) (v := ?_) (a' := ?_) #[true, true, true, true, false, true, true, true, false, false, false, false, false] rfl rfl (any_of HT_.out (by kernel_rfl)) (fun _ _ _ h => h) (Or.inl ⟨by rfl, ?_⟩) ?_ ?_
                              rotate_left
                              · intro w'
                                go_simp
                                with_reducible rfl
                              rotate_left
                              · simp only [Act.put, List.setIfInBounds_toArray, List.set_cons_zero, List.set_cons_succ, i64_w, i32_w]
                                rfl
                              refine take_ (i := 4) (N := some 49) (v := ?_) (a' := ?_) #[true, true, true, true, true, true, true, true, false, false, false, false, false] rfl rfl (take_ofW HT_.out HW_.out (by kernel_rfl)) (fun _ _ _ h => h) (Or.inl ⟨by rfl, ?_⟩) hHeld ?_ ?_
                              rotate_left
                              · rintro w' ⟨s0, s1⟩
                                go_simp
                                with_reducible rfl
                              rotate_left
                              · simp only [Act.put, List.setIfInBounds_toArray, List.set_cons_zero, List.set_cons_succ, i64_w, i32_w]
                                rfl
                              refine take_ (i := 8) (N := some 53) (v := ?_) (a' := ?_) #[true, true, true, true, true, true, true, true, true, false, false, false, false] rfl rfl (take_ofW HT_.out HW_.out (by kernel_rfl)) (fun _ _ _ h => h) (Or.inl ⟨by rfl, ?_⟩) hHeld ?_ ?_
                              rotate_left
                              · rintro w' ⟨s0, s1⟩
                                go_simp
                                with_reducible rfl
                              rotate_left
                              · simp only [Act.put, List.setIfInBounds_toArray, List.set_cons_zero, List.set_cons_succ, i64_w, i32_w]
                                rfl
                              refine pure_ (i := 9) (N := some 54) (v := ?_) (a' := ?_) #[true, true, true, true, true, true, true, true, true, true, false, false, false] rfl rfl (any_of HT_.out (by kernel_rfl)) (fun _ _ _ h => h) (Or.inl ⟨by rfl, ?_⟩) ?_ ?_
                              rotate_left
                              · intro w'
                                go_simp
                                with_reducible rfl
                              rotate_left
                              · simp only [Act.put, List.setIfInBounds_toArray, List.set_cons_zero, List.set_cons_succ, i64_w, i32_w]
                                rfl
                              refine one_ (i := 10) (N := some 55) #[true, true, true, true, true, true, true, true, true, true, true, false, false] rfl rfl (one_of HT_.out (by kernel_rfl)) (by decide) (fun K hK => ?_)
                              refine value_ (w1 := ?_) (v := ?_) (by rfl) rfl ?_ ?_
                              rotate_left 2
                              · go_simp
                                constructor
                                · rfl
                                · rfl
                              refine hK.out _ _ ⟨(World.cell?_alloc_lt _ _ _ (World.block_lt_of_cell? _ _ (((HB.out.cell (World.block_lt_of_cell? w _ hw156_0)).trans hw156_0)))).trans (((HB.out.cell (World.block_lt_of_cell? w _ hw156_0)).trans hw156_0)), (World.cell?_alloc_lt _ _ _ (World.block_lt_of_cell? _ _ (((HB.out.cell (World.block_lt_of_cell? w _ hw157_0)).trans hw157_0)))).trans (((HB.out.cell (World.block_lt_of_cell? w _ hw157_0)).trans hw157_0))⟩ (fun hHeld => ?_)
                              clear hK K
                              refine norm_ (a' := ?_) ?_ ?_
                              rotate_left
                              · show Act.put _ (some 55) _ = _
                                simp only [Act.put, List.setIfInBounds_toArray, List.set_cons_zero, List.set_cons_succ, i64_w, i32_w]
                                rfl
                              refine one_ (i := 11) (N := some 56) #[true, true, true, true, true, true, true, true, true, true, true, true, false] rfl rfl (one_of HT_.out (by kernel_rfl)) (by decide) (fun K hK => ?_)
                              refine Kd.R_append_step (Kd.int .i64) (w0 := w) w.heap.size (by rfl) (.tmp 45) (.tmp 55) 22 3 (.int .i64 0) 8 rfl Try.underlying22 info3 rfl (by decide) (by omega) u7 x7_2 (wrap64 (Int.tdiv (rd l0 x9_2) (rd l1 x9_2))) [.int .i64 (wrap64 (Int.tdiv (rd l0 x9_2) (rd l1 x9_2)))] (fun k_ => some k_ ≠ (u8 : Value).ownBlock) (fun _ => False) rfl rfl ?aP (fun _ hk => hk.elim) ?aF ?aO ?aB ?aS ?aL ?_
                              (case aP => exact rfl)
                              (case aB => exact (by repeat (first | (with_reducible first | exact HB.out | apply below_alloc | apply pw_below_drewN | apply below_drew1) | exact HB.out)))
                              (case aF => exact (fun k_ hk => Kd.fresh' (Kd.R_lt (by (with_reducible repeat (first | apply Kd.R_alloc | apply Kd.R_drewN | apply Kd.R_drew)); exact HO_8.out)) k_ hk))
                              (case aO => exact (by (with_reducible repeat (first | apply Kd.R_alloc | apply Kd.R_drewN | apply Kd.R_drew)); exact HO_7.out))
                              (case aS => exact (below_size (by repeat (first | (with_reducible first | exact HB.out | apply below_alloc | apply pw_below_drewN | apply below_drew1) | exact HB.out))))
                              (case aL => have := LMc13.out; omega)
                              intro v159 w16 ho hb hg hat
                              rw [← Ny158.out] at ho
                              have n0_ := Aside0.mk (Kd.R_after (ok := (fun _ => True)) (by (with_reducible repeat (first | apply Kd.R_alloc | apply Kd.R_drewN | apply Kd.R_drew)); exact Kd.R_mono HO_8.out (fun _ hk => ⟨trivial, hk⟩)) hg hat)
                              have n1_ := Aside0.mk (hb)
                              have n2_ := Aside0.mk (ho)
                              clear HO_8
                              clear HB
                              clear HO_7
                              have HO_8 := n0_
                              have HB := n1_
                              have HO160 := n2_
                              clear n0_ n1_ n2_
                              clear ho hb hg hat
                              refine hK.out _ _ ⟨((HB.out.cell (World.block_lt_of_cell? w _ hw156_0)).trans hw156_0), ((HB.out.cell (World.block_lt_of_cell? w _ hw157_0)).trans hw157_0)⟩ (fun hHeld => ?_)
                              clear hK K
                              refine norm_ (a' := ?_) ?_ ?_
                              rotate_left
                              · show Act.put _ (some 56) _ = _
                                simp only [Act.put, List.setIfInBounds_toArray, List.set_cons_zero, List.set_cons_succ, i64_w, i32_w]
                                rfl
                              refine pure_ (i := 12) (N := some 7) (v := ?_) (a' := ?_) #[true, true, true, true, true, true, true, true, true, true, true, true, true] rfl rfl (any_of HT_.out (by kernel_rfl)) (fun _ _ _ h => h) (Or.inl ⟨by rfl, ?_⟩) ?_ ?_
                              rotate_left
                              · intro w'
                                go_simp
                                with_reducible rfl
                              rotate_left
                              · simp only [Act.put, List.setIfInBounds_toArray, List.set_cons_zero, List.set_cons_succ, i64_w, i32_w]
                                rfl
                              refine done_ (done_of HT_.out (by kernel_rfl)) ?_
                              try go_wp2
                              have n0_ := Aside0.mk (Kd.R_drew HO_8.out)
                              have n1_ := Aside0.mk (Kd.R_drew HO160.out)
                              have n2_ := Aside0.mk (below_drew1 HB.out)
                              clear HO_8
                              clear HO160
                              clear HB
                              have HO_8 := n0_
                              have HO160 := n1_
                              have HB := n2_
                              clear n0_ n1_ n2_
                              have p161 : 0 ≤ (x9_2 : Int) := of_decide_eq_true (by first | (with_reducible assumption) | assumption)
                              have q161 : x9_2 < (l0.length : Int) := of_decide_eq_true (by first | (with_reducible assumption) | assumption)
                              obtain ⟨ad161, e161, hx161_0⟩ := Kd.at_int HR0.out x9_2 p161 q161
                              have hw161_0 := hx161_0
                              obtain rfl : ad153 = ad161 := (by injection e161)
                              replace hx161_0 := (HB.out.cell (World.block_lt_of_cell? w _ hx161_0)).trans hx161_0
                              replace p161 := eq_true p161
                              replace q161 := eq_true q161
                              have p162 : 0 ≤ (x9_2 : Int) := of_decide_eq_true (by first | (with_reducible assumption) | assumption)
                              have q162 : x9_2 < (l1.length : Int) := of_decide_eq_true (by first | (with_reducible assumption) | assumption)
                              obtain ⟨ad162, e162, hx162_0⟩ := Kd.at_int HR1.out x9_2 p162 q162
                              have hw162_0 := hx162_0
                              obtain rfl : ad154 = ad162 := (by injection e162)
                              replace hx162_0 := (HB.out.cell (World.block_lt_of_cell? w _ hx162_0)).trans hx162_0
                              replace p162 := eq_true p162
                              replace q162 := eq_true q162
                              refine start_ (n := 13) (S := fun w' => w'.cell? (ad153.add (x9_2).toNat) = some (.int .i64 (rd l0 x9_2)) ∧ w'.cell? (ad154.add (x9_2).toNat) = some (.int .i64 (rd l1 x9_2))) (ds := []) #[false, false, false, false, false, false, false, false, false, false, false, false, false] (by kernel_rfl) rfl rfl ⟨((HB.out.cell (World.block_lt_of_cell? w _ hw161_0)).trans hw161_0), ((HB.out.cell (World.block_lt_of_cell? w _ hw162_0)).trans hw162_0)⟩ (fun hHeld => ?_); refine with_tabW slabvaultref13_Of.tab10 slabvaultref13_Of.bits10 (fun HT_ HW_ => ?_)
                              generalize w16.drew = w17 at HO_8 HO160 HB hx161_0 hx162_0 hHeld ⊢
                              refine pure_ (i := 0) (N := some 57) (v := ?_) (a' := ?_) #[true, false, false, false, false, false, false, false, false, false, false, false, false] rfl rfl (any_of HT_.out (by kernel_rfl)) (fun _ _ _ h => h) (Or.inl ⟨by rfl, ?_⟩) ?_ ?_
                              rotate_left
                              · intro w'
                                go_simp
                                with_reducible rfl
                              rotate_left
                              · simp only [Act.put, List.setIfInBounds_toArray, List.set_cons_zero, List.set_cons_succ, i64_w, i32_w]
                                rfl
                              refine pure_ (i := 1) (N := some 58) (v := ?_) (a' := ?_) #[true, true, false, false, false, false, false, false, false, false, false, false, false] rfl rfl (any_of HT_.out (by kernel_rfl)) (fun _ _ _ h => h) (Or.inl ⟨by rfl, ?_⟩) ?_ ?_
                              rotate_left
                              · intro w'
                                go_simp
                                with_reducible rfl
                              rotate_left
                              · simp only [Act.put, List.setIfInBounds_toArray, List.set_cons_zero, List.set_cons_succ, i64_w, i32_w]
                                rfl
                              refine pure_ (i := 2) (N := some 59) (v := ?_) (a' := ?_) #[true, true, true, false, false, false, false, false, false, false, false, false, false] rfl rfl (any_of HT_.out (by kernel_rfl)) (fun _ _ _ h => h) (Or.inl ⟨by rfl, ?_⟩) ?_ ?_
                              rotate_left
                              · intro w'
                                go_simp
                                with_reducible rfl
                              rotate_left
                              · simp only [Act.put, List.setIfInBounds_toArray, List.set_cons_zero, List.set_cons_succ, i64_w, i32_w]
                                rfl
                              refine pure_ (i := 3) (N := some 60) (v := ?_) (a' := ?_) #[true, true, true, true, false, false, false, false, false, false, false, false, false] rfl rfl (any_of HT_.out (by kernel_rfl)) (fun _ _ _ h => h) (Or.inl ⟨by rfl, ?_⟩) ?_ ?_
                              rotate_left
                              · intro w'
                                go_simp
                                with_reducible rfl
                              rotate_left
                              · simp only [Act.put, List.setIfInBounds_toArray, List.set_cons_zero, List.set_cons_succ, i64_w, i32_w]
                                rfl
                              refine pure_ (i := 5) (N := some 62) (v := ?_) (a' := ?_) #[true, true, true, true, false, true, false, false, false, false, false, false, false] rfl rfl (any_of HT_.out (by kernel_rfl)) (fun _ _ _ h => h) (Or.inl ⟨by rfl, ?_⟩) ?_ ?_
                              rotate_left
                              · intro w'
                                go_simp
                                with_reducible rfl
                              rotate_left
                              · simp only [Act.put, List.setIfInBounds_toArray, List.set_cons_zero, List.set_cons_succ, i64_w, i32_w]
                                rfl
                              refine pure_ (i := 6) (N := some 63) (v := ?_) (a' := ?_) #[true, true, true, true, false, true, true, false, false, false, false, false, false] rfl rfl (any_of HT_.out (by kernel_rfl)) (fun _ _ _ h => h) (Or.inl ⟨by rfl, ?_⟩) ?_ ?_
                              rotate_left
                              · intro w'
                                go_simp
                                with_reducible rfl
                              rotate_left
                              · simp only [Act.put, List.setIfInBounds_toArray, List.set_cons_zero, List.set_cons_succ, i64_w, i32_w]
                                rfl
                              refine pure_ (i := 7) (N := some 64) (v := ?_) (a' := ?_) #[true, true, true, true, false, true, true, true, false, false, false, false, false] rfl rfl (any_of HT_.out (by kernel_rfl)) (fun _ _ _ h => h) (Or.inl ⟨by rfl, ?_⟩) ?_ ?_
                              rotate_left
                              · intro w'
                                go_simp
                                with_reducible rfl
                              rotate_left
                              · simp only [Act.put, List.setIfInBounds_toArray, List.set_cons_zero, List.set_cons_succ, i64_w, i32_w]
                                rfl
                              refine take_ (i := 4) (N := some 61) (v := ?_) (a' := ?_) #[true, true, true, true, true, true, true, true, false, false, false, false, false] rfl rfl (take_ofW HT_.out HW_.out (by kernel_rfl)) (fun _ _ _ h => h) (Or.inl ⟨by rfl, ?_⟩) hHeld ?_ ?_
                              rotate_left
                              · rintro w' ⟨s0, s1⟩
                                go_simp
                                with_reducible rfl
                              rotate_left
                              · simp only [Act.put, List.setIfInBounds_toArray, List.set_cons_zero, List.set_cons_succ, i64_w, i32_w]
                                rfl
                              refine take_ (i := 8) (N := some 65) (v := ?_) (a' := ?_) #[true, true, true, true, true, true, true, true, true, false, false, false, false] rfl rfl (take_ofW HT_.out HW_.out (by kernel_rfl)) (fun _ _ _ h => h) (Or.inl ⟨by rfl, ?_⟩) hHeld ?_ ?_
                              rotate_left
                              · rintro w' ⟨s0, s1⟩
                                go_simp
                                with_reducible rfl
                              rotate_left
                              · simp only [Act.put, List.setIfInBounds_toArray, List.set_cons_zero, List.set_cons_succ, i64_w, i32_w]
                                rfl
                              refine pure_ (i := 9) (N := some 66) (v := ?_) (a' := ?_) #[true, true, true, true, true, true, true, true, true, true, false, false, false] rfl rfl (any_of HT_.out (by kernel_rfl)) (fun _ _ _ h => h) (Or.inl ⟨by rfl, ?_⟩) ?_ ?_
                              rotate_left
                              · intro w'
                                go_simp
                                with_reducible rfl
                              rotate_left
                              · simp only [Act.put, List.setIfInBounds_toArray, List.set_cons_zero, List.set_cons_succ, i64_w, i32_w]
                                rfl
                              refine one_ (i := 10) (N := some 67) #[true, true, true, true, true, true, true, true, true, true, true, false, false] rfl rfl (one_of HT_.out (by kernel_rfl)) (by decide) (fun K hK => ?_)
                              refine value_ (w1 := ?_) (v := ?_) (by rfl) rfl ?_ ?_
                              rotate_left 2
                              · go_simp
                                constructor
                                · rfl
                                · rfl
                              refine hK.out _ _ ⟨(World.cell?_alloc_lt _ _ _ (World.block_lt_of_cell? _ _ (((HB.out.cell (World.block_lt_of_cell? w _ hw161_0)).trans hw161_0)))).trans (((HB.out.cell (World.block_lt_of_cell? w _ hw161_0)).trans hw161_0)), (World.cell?_alloc_lt _ _ _ (World.block_lt_of_cell? _ _ (((HB.out.cell (World.block_lt_of_cell? w _ hw162_0)).trans hw162_0)))).trans (((HB.out.cell (World.block_lt_of_cell? w _ hw162_0)).trans hw162_0))⟩ (fun hHeld => ?_)
                              clear hK K
                              refine norm_ (a' := ?_) ?_ ?_
                              rotate_left
                              · show Act.put _ (some 67) _ = _
                                simp only [Act.put, List.setIfInBounds_toArray, List.set_cons_zero, List.set_cons_succ, i64_w, i32_w]
                                rfl
                              refine one_ (i := 11) (N := some 68) #[true, true, true, true, true, true, true, true, true, true, true, true, false] rfl rfl (one_of HT_.out (by kernel_rfl)) (by decide) (fun K hK => ?_)
                              refine Kd.R_append_step (Kd.int .i64) (w0 := w) w.heap.size (by rfl) (.tmp 57) (.tmp 67) 22 3 (.int .i64 0) 8 rfl Try.underlying22 info3 rfl (by decide) (by omega) u8 x8_2 (Int.tmod (rd l0 x9_2) (rd l1 x9_2)) [.int .i64 (Int.tmod (rd l0 x9_2) (rd l1 x9_2))] (fun k_ => some k_ ≠ (v159 : Value).ownBlock) (fun _ => False) rfl rfl ?aP (fun _ hk => hk.elim) ?aF ?aO ?aB ?aS ?aL ?_
                              (case aP => exact rfl)
                              (case aB => exact (by repeat (first | (with_reducible first | exact HB.out | apply below_alloc | apply pw_below_drewN | apply below_drew1) | exact HB.out)))
                              (case aF => exact (fun k_ hk => Kd.fresh' (Kd.R_lt (by (with_reducible repeat (first | apply Kd.R_alloc | apply Kd.R_drewN | apply Kd.R_drew)); exact HO160.out)) k_ hk))
                              (case aO => exact (by (with_reducible repeat (first | apply Kd.R_alloc | apply Kd.R_drewN | apply Kd.R_drew)); exact Kd.R_mono HO_8.out (fun _ hk => hk.2)))
                              (case aS => exact (below_size (by repeat (first | (with_reducible first | exact HB.out | apply below_alloc | apply pw_below_drewN | apply below_drew1) | exact HB.out))))
                              (case aL => have := LMc14.out; omega)
                              intro v164 w18 ho hb hg hat
                              rw [← Ny163.out] at ho
                              have n0_ := Aside0.mk (Kd.R_after (ok := (fun _ => True)) (by (with_reducible repeat (first | apply Kd.R_alloc | apply Kd.R_drewN | apply Kd.R_drew)); exact Kd.R_mono HO160.out (fun _ hk => ⟨trivial, hk⟩)) hg hat)
                              have n1_ := Aside0.mk (hb)
                              have n2_ := Aside0.mk (ho)
                              clear HO160
                              clear HB
                              clear HO_8
                              have HO160 := n0_
                              have HB := n1_
                              have HO165 := n2_
                              clear n0_ n1_ n2_
                              clear ho hb hg hat
                              refine hK.out _ _ ⟨((HB.out.cell (World.block_lt_of_cell? w _ hw161_0)).trans hw161_0), ((HB.out.cell (World.block_lt_of_cell? w _ hw162_0)).trans hw162_0)⟩ (fun hHeld => ?_)
                              clear hK K
                              refine norm_ (a' := ?_) ?_ ?_
                              rotate_left
                              · show Act.put _ (some 68) _ = _
                                simp only [Act.put, List.setIfInBounds_toArray, List.set_cons_zero, List.set_cons_succ, i64_w, i32_w]
                                rfl
                              refine pure_ (i := 12) (N := some 8) (v := ?_) (a' := ?_) #[true, true, true, true, true, true, true, true, true, true, true, true, true] rfl rfl (any_of HT_.out (by kernel_rfl)) (fun _ _ _ h => h) (Or.inl ⟨by rfl, ?_⟩) ?_ ?_
                              rotate_left
                              · intro w'
                                go_simp
                                with_reducible rfl
                              rotate_left
                              · simp only [Act.put, List.setIfInBounds_toArray, List.set_cons_zero, List.set_cons_succ, i64_w, i32_w]
                                rfl
                              refine done_ (done_of HT_.out (by kernel_rfl)) ?_
                              try go_wp2
                              go_roundg k2
                              case measure => have := HJ2.out; have := HK2.out; omega
                              case rel => exact ⟨(y158), (y163), (wrap64 (x9_2 + 1)), (by first | rfl | (simp; done) | (simp [*]; done)), H', ⟨by have := HJ2.out; have := HK2.out; omega⟩, ⟨by (with_reducible repeat (first | apply Kd.R_alloc | apply Kd.R_drewN | apply Kd.R_drew)); exact Kd.R_mono HO160.out (fun _ hk => hk.2)⟩, ⟨by (with_reducible repeat (first | apply Kd.R_alloc | apply Kd.R_drewN | apply Kd.R_drew)); exact HO165.out⟩, ⟨by repeat (first | (with_reducible first | exact HB.out | apply below_alloc | apply pw_below_drewN | apply below_drew1) | exact HB.out)⟩⟩
                            · rw [if_neg c14] at H
                              exact absurd H (by simp)
                          · rw [if_neg c13] at H
                            exact absurd H (by simp)
                  · rw [if_neg c9] at H
                    exact absurd H (by simp)
              · rw [if_neg c7] at H
                exact absurd H (by simp)
            · rw [if_neg c6] at H
              have c6b0 : decide (x9_2 < (l0.length : Int)) = false := decide_eq_false c6
              clear c6
              simp only [Option.some.injEq, Prod.mk.injEq] at H
              obtain ⟨rfl, rfl, rfl⟩ := H
              go_wp2
              go_ret3
              exact ⟨_, _, by first | rfl | (simp [errW_none, errW_some] <;> rfl) | (simp [*, errW_none, errW_some] <;> rfl), by (with_reducible repeat (first | apply Kd.R_alloc | apply Kd.R_drewN | apply Kd.R_drew)); exact HO_7.out, by (with_reducible repeat (first | apply Kd.R_alloc | apply Kd.R_drewN | apply Kd.R_drew)); exact HO_8.out, by repeat (first | (with_reducible first | exact HB.out | apply below_alloc | apply pw_below_drewN | apply below_drew1) | exact HB.out)⟩
end Go.Proofs.Ytjbjofmcmjojlab.Wk
end
section
namespace Go.Proofs.Ytjbjofmcmjojlab.Wk
open Go.RowKit Go.Proofs.YtjbjofmcmjojlabW.PrintWords Go.Proofs.YtjbjofmcmjojlabW.PrintLast Go.Proofs.YtjbjofmcmjojlabW.PrintMore
attribute [local go_sem] max2_int min2_int max_two min_two max_three min_three max_four min_four
set_option linter.unusedVariables false
set_option linter.unusedSimpArgs false
def slabvaultlaw13_GridCounts.f (k : Nat) (l0 : List Int) (l1 : List Int) (l2 : List Int) : Option (Bool) := (grid_Chunks.f k l0 l1).bind fun bt166 => ((slabvaultref13_Chunks.f k l0 l1).bind fun bt168 => ((grid_Of.f l2 l1).bind fun bt170 => ((slabvaultref13_Of.f k l2 l1).bind fun bt177 => (if bt166.1 = bt168.1 then (if bt166.2 = bt168.2 then ((slabvaultlaw13_ints.f k bt170.1 bt177.1).bind fun t184 => (if t184 = true then ((slabvaultlaw13_ints.f k bt170.2.1 bt177.2.1).bind fun t185 => (if t185 = true then (if bt170.2.2 = bt177.2.2 then ((slabvaultlaw13_lives.f).bind fun t186 => (some t186)) else (none)) else (none))) else (none))) else (none)) else (none)))))
set_option maxHeartbeats 8000000 in
set_option maxRecDepth 100000 in
theorem slabvaultlaw13_GridCounts.calls (k : Nat) (A0 : Option Addr) (c0 : Nat) (l0 : List Int) (A1 : Option Addr) (c1 : Nat) (l1 : List Int) (A2 : Option Addr) (c2 : Nat) (l2 : List Int) (r : Bool) (w : World) (hr0 : Kd.C (Kd.int .i64) w A0 l0.length l0) (hc0 : l0.length ≤ c0) (hr1 : Kd.C (Kd.int .i64) w A1 l1.length l1) (hc1 : l1.length ≤ c1) (hr2 : Kd.C (Kd.int .i64) w A2 l2.length l2) (hc2 : l2.length ≤ c2) (h : slabvaultlaw13_GridCounts.f k l0 l1 l2 = some r) :
    Calls Try.prog 7 #[.slice A0 l0.length c0, .slice A1 l1.length c1, .slice A2 l2.length c2] w fun e w' => e = .returned (.bool r) ∧ Below w.heap.size w w' := by
  have HR0 := Aside0.mk hr0
  have HC0 := Aside0.mk hc0
  clear hr0 hc0
  have HR1 := Aside0.mk hr1
  have HC1 := Aside0.mk hc1
  clear hr1 hc1
  have HR2 := Aside0.mk hr2
  have HC2 := Aside0.mk hc2
  clear hr2 hc2
  have HB := Aside0.mk (Below.refl w.heap.size w)
  have H : ((grid_Chunks.f k l0 l1).bind fun bt166 => ((slabvaultref13_Chunks.f k l0 l1).bind fun bt168 => ((grid_Of.f l2 l1).bind fun bt170 => ((slabvaultref13_Of.f k l2 l1).bind fun bt177 => (if bt166.1 = bt168.1 then (if bt166.2 = bt168.2 then ((slabvaultlaw13_ints.f k bt170.1 bt177.1).bind fun t184 => (if t184 = true then ((slabvaultlaw13_ints.f k bt170.2.1 bt177.2.1).bind fun t185 => (if t185 = true then (if bt170.2.2 = bt177.2.2 then ((slabvaultlaw13_lives.f).bind fun t186 => (some t186)) else (none)) else (none))) else (none))) else (none)) else (none)))))) = some r := h
  clear h
  replace H := Option.bind_eq_some_iff.mp H
  obtain ⟨⟨t166, t167⟩, A40, H⟩ := H
  replace H : ((slabvaultref13_Chunks.f k l0 l1).bind fun bt168 => ((grid_Of.f l2 l1).bind fun bt170 => ((slabvaultref13_Of.f k l2 l1).bind fun bt177 => (if t166 = bt168.1 then (if t167 = bt168.2 then ((slabvaultlaw13_ints.f k bt170.1 bt177.1).bind fun t184 => (if t184 = true then ((slabvaultlaw13_ints.f k bt170.2.1 bt177.2.1).bind fun t185 => (if t185 = true then (if bt170.2.2 = bt177.2.2 then ((slabvaultlaw13_lives.f).bind fun t186 => (some t186)) else (none)) else (none))) else (none))) else (none)) else (none))))) = some r := H
  have A4 := Aside0.mk A40
  clear A40
  replace H := Option.bind_eq_some_iff.mp H
  obtain ⟨⟨t168, t169⟩, A50, H⟩ := H
  replace H : ((grid_Of.f l2 l1).bind fun bt170 => ((slabvaultref13_Of.f k l2 l1).bind fun bt177 => (if t166 = t168 then (if t167 = t169 then ((slabvaultlaw13_ints.f k bt170.1 bt177.1).bind fun t184 => (if t184 = true then ((slabvaultlaw13_ints.f k bt170.2.1 bt177.2.1).bind fun t185 => (if t185 = true then (if bt170.2.2 = bt177.2.2 then ((slabvaultlaw13_lives.f).bind fun t186 => (some t186)) else (none)) else (none))) else (none))) else (none)) else (none)))) = some r := H
  have A5 := Aside0.mk A50
  clear A50
  replace H := Option.bind_eq_some_iff.mp H
  obtain ⟨⟨t170, t171, t172⟩, A60, H⟩ := H
  replace H : ((slabvaultref13_Of.f k l2 l1).bind fun bt177 => (if t166 = t168 then (if t167 = t169 then ((slabvaultlaw13_ints.f k t170 bt177.1).bind fun t184 => (if t184 = true then ((slabvaultlaw13_ints.f k t171 bt177.2.1).bind fun t185 => (if t185 = true then (if t172 = bt177.2.2 then ((slabvaultlaw13_lives.f).bind fun t186 => (some t186)) else (none)) else (none))) else (none))) else (none)) else (none))) = some r := H
  have A6 := Aside0.mk A60
  clear A60
  replace H := Option.bind_eq_some_iff.mp H
  obtain ⟨⟨t177, t178, t179⟩, A70, H⟩ := H
  replace H : (if t166 = t168 then (if t167 = t169 then ((slabvaultlaw13_ints.f k t170 t177).bind fun t184 => (if t184 = true then ((slabvaultlaw13_ints.f k t171 t178).bind fun t185 => (if t185 = true then (if t172 = t179 then ((slabvaultlaw13_lives.f).bind fun t186 => (some t186)) else (none)) else (none))) else (none))) else (none)) else (none)) = some r := H
  have A7 := Aside0.mk A70
  clear A70
  by_cases c8 : t166 = t168
  · rw [if_pos c8] at H
    have c8b0 : (t166 == t168) = true := beq_iff_eq.mpr c8
    have c8b1 : (t166 != t168) = false := bne_eq_false_iff_eq.mpr c8
    clear c8
    by_cases c9 : t167 = t169
    · rw [if_pos c9] at H
      have c9b0 : (t167 == t169) = true := beq_iff_eq.mpr c9
      have c9b1 : (t167 != t169) = false := bne_eq_false_iff_eq.mpr c9
      clear c9
      replace H := Option.bind_eq_some_iff.mp H
      obtain ⟨t184, A100, H⟩ := H
      replace H : (if t184 = true then ((slabvaultlaw13_ints.f k t171 t178).bind fun t185 => (if t185 = true then (if t172 = t179 then ((slabvaultlaw13_lives.f).bind fun t186 => (some t186)) else (none)) else (none))) else (none)) = some r := H
      have A10 := Aside0.mk A100
      clear A100
      by_cases c11 : t184 = true
      · subst c11
        have H1 : ((slabvaultlaw13_ints.f k t171 t178).bind fun t185 => (if t185 = true then (if t172 = t179 then ((slabvaultlaw13_lives.f).bind fun t186 => (some t186)) else (none)) else (none))) = some r := by rw [if_pos rfl] at H; exact H
        clear H
        have H := H1
        clear H1
        replace H := Option.bind_eq_some_iff.mp H
        obtain ⟨t185, A120, H⟩ := H
        replace H : (if t185 = true then (if t172 = t179 then ((slabvaultlaw13_lives.f).bind fun t186 => (some t186)) else (none)) else (none)) = some r := H
        have A12 := Aside0.mk A120
        clear A120
        by_cases c13 : t185 = true
        · subst c13
          have H1 : (if t172 = t179 then ((slabvaultlaw13_lives.f).bind fun t186 => (some t186)) else (none)) = some r := by rw [if_pos rfl] at H; exact H
          clear H
          have H := H1
          clear H1
          by_cases c14 : t172 = t179
          · rw [if_pos c14] at H
            have c14b0 : (t172 == t179) = true := beq_iff_eq.mpr c14
            have c14b1 : (t172 != t179) = false := bne_eq_false_iff_eq.mpr c14
            clear c14
            replace H := Option.bind_eq_some_iff.mp H
            obtain ⟨t186, A150, H⟩ := H
            replace H : (some t186) = some r := H
            have A15 := Aside0.mk A150
            clear A150
            obtain rfl := Option.some.inj H
            go_enter Try.func7, Try.ntmps7
            go_wp2_with (first | ((with_reducible refine gate_callee (f := 25) rfl ?_); refine goesL_ (some 20) rfl rfl Try.func25 (by kernel_rfl) rfl #[.slice A0 l0.length c0, .slice A1 l1.length c1] rfl (by (try simp only [List.map_toArray, List.map_cons, List.map_nil]); first | done | rfl | (simp only [List.length_drop, List.length_take]; rfl)) ?_; (with_reducible refine (grid_Chunks.calls k _ _ l0 _ _ l1 t166 t167 _ ?side1 ?side2 ?side3 ?side4 A4.out).mono ?_); (case side1 => repeat (first | exact HR0.out | (with_reducible refine Kd.C_alloc ?_ _) | (with_reducible refine Kd.C_drewN ?_ _) | (with_reducible refine Kd.C_drew ?_))); (case side2 => exact HC0.out); (case side3 => repeat (first | exact HR1.out | (with_reducible refine Kd.C_alloc ?_ _) | (with_reducible refine Kd.C_drewN ?_ _) | (with_reducible refine Kd.C_drew ?_))); (case side4 => exact HC1.out); rintro e w' ⟨rfl, ⟨nd, rfl⟩⟩; refine ⟨_, rfl, ?_⟩) | ((with_reducible refine gate_callee (f := 26) rfl ?_); refine goesL_ (some 26) rfl rfl Try.func26 (by kernel_rfl) rfl #[.slice A0 l0.length c0, .slice A1 l1.length c1] rfl (by (try simp only [List.map_toArray, List.map_cons, List.map_nil]); first | done | rfl | (simp only [List.length_drop, List.length_take]; rfl)) ?_; (with_reducible refine (slabvaultref13_Chunks.calls k _ _ l0 _ _ l1 t168 t169 _ ?side1 ?side2 ?side3 ?side4 A5.out).mono ?_); (case side1 => repeat (first | exact HR0.out | (with_reducible refine Kd.C_alloc ?_ _) | (with_reducible refine Kd.C_drewN ?_ _) | (with_reducible refine Kd.C_drew ?_))); (case side2 => exact HC0.out); (case side3 => repeat (first | exact HR1.out | (with_reducible refine Kd.C_alloc ?_ _) | (with_reducible refine Kd.C_drewN ?_ _) | (with_reducible refine Kd.C_drew ?_))); (case side4 => exact HC1.out); rintro e w' ⟨rfl, ⟨nd, rfl⟩⟩; refine ⟨_, rfl, ?_⟩) | ((with_reducible refine gate_callee (f := 27) rfl ?_); refine goesL_ (some 32) rfl rfl Try.func27 (by kernel_rfl) rfl #[.slice A2 l2.length c2, .slice A1 l1.length c1] rfl (by (try simp only [List.map_toArray, List.map_cons, List.map_nil]); first | done | rfl | (simp only [List.length_drop, List.length_take]; rfl)) ?_; (with_reducible refine (grid_Of.calls _ _ l2 _ _ l1 t170 t171 t172 _ ?side1 ?side2 ?side3 ?side4 A6.out).mono ?_); (case side1 => repeat (first | exact HR2.out | (with_reducible refine Kd.C_alloc ?_ _) | (with_reducible refine Kd.C_drewN ?_ _) | (with_reducible refine Kd.C_drew ?_))); (case side2 => exact HC2.out); (case side3 => repeat (first | exact HR1.out | (with_reducible refine Kd.C_alloc ?_ _) | (with_reducible refine Kd.C_drewN ?_ _) | (with_reducible refine Kd.C_drew ?_))); (case side4 => exact HC1.out); rintro e w16 ⟨v173, v175, rfl, ho0, ho1, hb⟩; refine ⟨_, rfl, ?_⟩; have n0_ := Aside0.mk (Kd.R_lower ho0 (below_size (by repeat (first | (with_reducible first | exact HB.out | apply below_alloc | apply pw_below_drewN | apply below_drew1) | exact HB.out)))); have n1_ := Aside0.mk (Kd.R_lower ho1 (below_size (by repeat (first | (with_reducible first | exact HB.out | apply below_alloc | apply pw_below_drewN | apply below_drew1) | exact HB.out)))); have n2_ := Aside0.mk (below_step (by repeat (first | (with_reducible first | exact HB.out | apply below_alloc | apply pw_below_drewN | apply below_drew1) | exact HB.out)) hb); clear HB; have HO174 := n0_; have HO176 := n1_; have HB := n2_; clear n0_ n1_ n2_; (try clear hb); (try clear hb2); (try clear hk); (try clear hi); (try clear ho0); (try clear ho1)) | ((with_reducible refine gate_callee (f := 28) rfl ?_); refine goesL_ (some 39) rfl rfl Try.func28 (by kernel_rfl) rfl #[.slice A2 l2.length c2, .slice A1 l1.length c1] rfl (by (try simp only [List.map_toArray, List.map_cons, List.map_nil]); first | done | rfl | (simp only [List.length_drop, List.length_take]; rfl)) ?_; (with_reducible refine (slabvaultref13_Of.calls k _ _ l2 _ _ l1 t177 t178 t179 _ ?side1 ?side2 ?side3 ?side4 A7.out).mono ?_); (case side1 => repeat (first | exact (Kd.C_below HR2.out HB.out) | (with_reducible refine Kd.C_alloc ?_ _) | (with_reducible refine Kd.C_drewN ?_ _) | (with_reducible refine Kd.C_drew ?_))); (case side2 => exact HC2.out); (case side3 => repeat (first | exact (Kd.C_below HR1.out HB.out) | (with_reducible refine Kd.C_alloc ?_ _) | (with_reducible refine Kd.C_drewN ?_ _) | (with_reducible refine Kd.C_drew ?_))); (case side4 => exact HC1.out); rintro e w17 ⟨v180, v182, rfl, ho0, ho1, hb⟩; refine ⟨_, rfl, ?_⟩; have n0_ := Aside0.mk (Kd.R_mono (Kd.R_told (Kd.R_told (Kd.R_old (by (with_reducible repeat (first | apply Kd.R_alloc | apply Kd.R_drewN | apply Kd.R_drew)); exact HO174.out) hb) (Kd.R_base ho0)) (Kd.R_base ho1)) (fun _ h_ => h_.1)); have n1_ := Aside0.mk (Kd.R_mono (Kd.R_told (Kd.R_told (Kd.R_old (by (with_reducible repeat (first | apply Kd.R_alloc | apply Kd.R_drewN | apply Kd.R_drew)); exact HO176.out) hb) (Kd.R_base ho0)) (Kd.R_base ho1)) (fun _ h_ => h_.1)); have n2_ := Aside0.mk (Kd.R_lower (Kd.R_new' (Kd.R_new' ho0 (Kd.R_lt (by (with_reducible repeat (first | apply Kd.R_alloc | apply Kd.R_drewN | apply Kd.R_drew)); exact HO174.out))) (Kd.R_lt (by (with_reducible repeat (first | apply Kd.R_alloc | apply Kd.R_drewN | apply Kd.R_drew)); exact HO176.out))) (below_size (by repeat (first | (with_reducible first | exact HB.out | apply below_alloc | apply pw_below_drewN | apply below_drew1) | exact HB.out)))); have n3_ := Aside0.mk (Kd.R_lower (Kd.R_new' (Kd.R_new' ho1 (Kd.R_lt (by (with_reducible repeat (first | apply Kd.R_alloc | apply Kd.R_drewN | apply Kd.R_drew)); exact HO174.out))) (Kd.R_lt (by (with_reducible repeat (first | apply Kd.R_alloc | apply Kd.R_drewN | apply Kd.R_drew)); exact HO176.out))) (below_size (by repeat (first | (with_reducible first | exact HB.out | apply below_alloc | apply pw_below_drewN | apply below_drew1) | exact HB.out)))); have n4_ := Aside0.mk (below_step (by repeat (first | (with_reducible first | exact HB.out | apply below_alloc | apply pw_below_drewN | apply below_drew1) | exact HB.out)) hb); clear HO174; clear HO176; clear HB; have HO174 := n0_; have HO176 := n1_; have HO181 := n2_; have HO183 := n3_; have HB := n4_; clear n0_ n1_ n2_ n3_ n4_; (try clear hb); (try clear hb2); (try clear hk); (try clear hi); (try clear ho0); (try clear ho1); obtain ⟨Ao18, co18, eo18⟩ := Kd.R_slice HO174.out; subst eo18; obtain ⟨Ao19, co19, eo19⟩ := Kd.R_slice HO181.out; subst eo19) | (go_at_call 13; (with_reducible refine (slabvaultlaw13_ints.calls k _ _ t170 _ _ t177 true _ ?side1 ?side2 ?side3 ?side4 A10.out).mono ?_); (case side1 => repeat (first | exact (Kd.R_reads' HO174.out).2.2 | (with_reducible refine Kd.C_alloc ?_ _) | (with_reducible refine Kd.C_drewN ?_ _) | (with_reducible refine Kd.C_drew ?_))); (case side2 => exact (Kd.R_reads' HO174.out).2.1); (case side3 => repeat (first | exact (Kd.R_reads' HO181.out).2.2 | (with_reducible refine Kd.C_alloc ?_ _) | (with_reducible refine Kd.C_drewN ?_ _) | (with_reducible refine Kd.C_drew ?_))); (case side4 => exact (Kd.R_reads' HO181.out).2.1); rintro e w' ⟨rfl, ⟨nd, rfl⟩⟩; obtain ⟨Ao20, co20, eo20⟩ := Kd.R_slice HO176.out; subst eo20; obtain ⟨Ao21, co21, eo21⟩ := Kd.R_slice HO183.out; subst eo21) | (go_at_call 13; (with_reducible refine (slabvaultlaw13_ints.calls k _ _ t171 _ _ t178 true _ ?side1 ?side2 ?side3 ?side4 A12.out).mono ?_); (case side1 => repeat (first | exact (Kd.R_reads' HO176.out).2.2 | (with_reducible refine Kd.C_alloc ?_ _) | (with_reducible refine Kd.C_drewN ?_ _) | (with_reducible refine Kd.C_drew ?_))); (case side2 => exact (Kd.R_reads' HO176.out).2.1); (case side3 => repeat (first | exact (Kd.R_reads' HO183.out).2.2 | (with_reducible refine Kd.C_alloc ?_ _) | (with_reducible refine Kd.C_drewN ?_ _) | (with_reducible refine Kd.C_drew ?_))); (case side4 => exact (Kd.R_reads' HO183.out).2.1); rintro e w' ⟨rfl, ⟨nd, rfl⟩⟩) | (go_at_call 14; (with_reducible refine (slabvaultlaw13_lives.calls  t186 _ A15.out).mono ?_); rintro e w22 ⟨rfl, hb⟩; have n0_ := Aside0.mk (Kd.R_below (by (with_reducible repeat (first | apply Kd.R_alloc | apply Kd.R_drewN | apply Kd.R_drew)); exact HO174.out) hb); have n1_ := Aside0.mk (Kd.R_below (by (with_reducible repeat (first | apply Kd.R_alloc | apply Kd.R_drewN | apply Kd.R_drew)); exact HO176.out) hb); have n2_ := Aside0.mk (Kd.R_below (by (with_reducible repeat (first | apply Kd.R_alloc | apply Kd.R_drewN | apply Kd.R_drew)); exact HO181.out) hb); have n3_ := Aside0.mk (Kd.R_below (by (with_reducible repeat (first | apply Kd.R_alloc | apply Kd.R_drewN | apply Kd.R_drew)); exact HO183.out) hb); have n4_ := Aside0.mk (below_step (by repeat (first | (with_reducible first | exact HB.out | apply below_alloc | apply pw_below_drewN | apply below_drew1) | exact HB.out)) hb); clear HO174; clear HO176; clear HO181; clear HO183; clear HB; have HO174 := n0_; have HO176 := n1_; have HO181 := n2_; have HO183 := n3_; have HB := n4_; clear n0_ n1_ n2_ n3_ n4_; (try clear hb); (try clear hb2); (try clear hk); (try clear hi)))
            go_ret
            exact ⟨by first | rfl | (simp [errW_none, errW_some] <;> rfl) | (simp [*, errW_none, errW_some] <;> rfl), by repeat (first | (with_reducible first | exact HB.out | apply below_alloc | apply pw_below_drewN | apply below_drew1) | exact HB.out)⟩
          · rw [if_neg c14] at H
            exact absurd H (by simp)
        · replace c13 := Bool.eq_false_iff.mpr c13
          subst c13
          have H1 : (none) = some r := by rw [if_neg (show ¬ (false = true) by decide)] at H; exact H
          clear H
          have H := H1
          clear H1
          exact absurd H (by simp)
      · replace c11 := Bool.eq_false_iff.mpr c11
        subst c11
        have H1 : (none) = some r := by rw [if_neg (show ¬ (false = true) by decide)] at H; exact H
        clear H
        have H := H1
        clear H1
        exact absurd H (by simp)
    · rw [if_neg c9] at H
      exact absurd H (by simp)
  · rw [if_neg c8] at H
    exact absurd H (by simp)
def slabvaultlaw13_GridCounts.Pure : Prop := ∀ (l0 : List Int) (l1 : List Int) (l2 : List Int), l0.length ≤ maxLen → l0.length * 8 ≤ 140737488351232 → (∀ x ∈ l0, (Lit.int .i64 x).wf = true) → l1.length ≤ maxLen → l1.length * 8 ≤ 140737488351232 → (∀ x ∈ l1, (Lit.int .i64 x).wf = true) → l2.length ≤ maxLen → l2.length * 8 ≤ 140737488351232 → (∀ x ∈ l2, (Lit.int .i64 x).wf = true) → ∃ k, slabvaultlaw13_GridCounts.f k l0 l1 l2 = some true
theorem slabvaultlaw13_GridCounts.walk (P : slabvaultlaw13_GridCounts.Pure) (a0 : Option Addr) (len0 cap0 : Nat) (z0 : List Int) (a1 : Option Addr) (len1 cap1 : Nat) (z1 : List Int) (a2 : Option Addr) (len2 cap2 : Nat) (z2 : List Int) (w : World) (w0 : (a0 = none ∧ len0 = 0 ∧ cap0 = 0 ∧ z0 = []) ∨ ∃ x, a0 = some x ∧ len0 ≤ cap0 ∧ cap0 ≤ maxLen ∧ z0.length = cap0 ∧ (∀ i, i < z0.length → w.cell? (x.add i) = some (.int .i64 (z0.getD i 0))) ∧ ∀ n ∈ z0, (Lit.int .i64 n).wf = true) (y0 : len0 * 8 ≤ 140737488351232) (w1 : (a1 = none ∧ len1 = 0 ∧ cap1 = 0 ∧ z1 = []) ∨ ∃ x, a1 = some x ∧ len1 ≤ cap1 ∧ cap1 ≤ maxLen ∧ z1.length = cap1 ∧ (∀ i, i < z1.length → w.cell? (x.add i) = some (.int .i64 (z1.getD i 0))) ∧ ∀ n ∈ z1, (Lit.int .i64 n).wf = true) (y1 : len1 * 8 ≤ 140737488351232) (w2 : (a2 = none ∧ len2 = 0 ∧ cap2 = 0 ∧ z2 = []) ∨ ∃ x, a2 = some x ∧ len2 ≤ cap2 ∧ cap2 ≤ maxLen ∧ z2.length = cap2 ∧ (∀ i, i < z2.length → w.cell? (x.add i) = some (.int .i64 (z2.getD i 0))) ∧ ∀ n ∈ z2, (Lit.int .i64 n).wf = true) (y2 : len2 * 8 ≤ 140737488351232) :
    Calls Try.prog 7 #[.slice a0 len0 cap0, .slice a1 len1 cap1, .slice a2 len2 cap2] w fun e w' => e = .returned (.bool true) ∧ Below w.heap.size w w' := by
  obtain ⟨l0, rfl, hr0, hm0, hw0, hc0⟩ := ReadsInt.ofRowC w0
  obtain ⟨l1, rfl, hr1, hm1, hw1, hc1⟩ := ReadsInt.ofRowC w1
  obtain ⟨l2, rfl, hr2, hm2, hw2, hc2⟩ := ReadsInt.ofRowC w2
  obtain ⟨k, h⟩ := P l0 l1 l2 hm0 y0 hw0 hm1 y1 hw1 hm2 y2 hw2
  refine (slabvaultlaw13_GridCounts.calls k _ _ l0 _ _ l1 _ _ l2 true w (Kd.C_of_reads (d := (0 : Int)) (h1 := fun _ => rfl) hr0) hc0 (Kd.C_of_reads (d := (0 : Int)) (h1 := fun _ => rfl) hr1) hc1 (Kd.C_of_reads (d := (0 : Int)) (h1 := fun _ => rfl) hr2) hc2 h).mono ?_
  rintro e w' ⟨rfl, hd⟩
  exact ⟨rfl, hd⟩
end Go.Proofs.Ytjbjofmcmjojlab.Wk
end
section
namespace Go.Proofs.Ytjbjofmcmjojlab.Wk
open Go.RowKit Go.Proofs.YtjbjofmcmjojlabW.PrintWords Go.Proofs.YtjbjofmcmjojlabW.PrintLast Go.Proofs.YtjbjofmcmjojlabW.PrintMore
attribute [local go_sem] max2_int min2_int max_two min_two max_three min_three max_four min_four
set_option linter.unusedVariables false
set_option linter.unusedSimpArgs false
def slabvaultref13_right.l0 : Nat → List Int → Int → Int → Option (Bool)
  | 0, _, _, _ => none
  | k + 1, x0, x1, x5 => if x5 < x1 then (if 0 ≤ x5 then (if x5 < (x0.length : Int) then (if (rd x0 x5) < 0 then (some false) else (slabvaultref13_right.l0 k x0 x1 (wrap64 (x5 + 1)))) else (none)) else (none)) else (some true)
def slabvaultref13_right.f (k : Nat) (l0 : List Int) (a1 : Int) : Option (Bool) := if (l0.length : Int) = a1 then (slabvaultref13_right.l0 k l0 a1 0) else (some false)
end Go.Proofs.Ytjbjofmcmjojlab.Wk
end
section
namespace Go.Proofs.Ytjbjofmcmjojlab.Wk
open Go.RowKit Go.Proofs.YtjbjofmcmjojlabW.PrintWords Go.Proofs.YtjbjofmcmjojlabW.PrintLast Go.Proofs.YtjbjofmcmjojlabW.PrintMore
attribute [local go_sem] max2_int min2_int max_two min_two max_three min_three max_four min_four
set_option linter.unusedVariables false
set_option linter.unusedSimpArgs false
def slabvaultref13_Clip.l0 : Nat → List Int → List Int → List Int → List Int → List Int → Int → Option (List Int × List Int × Int)
  | 0, _, _, _, _, _, _ => none
  | k + 1, x0, x1, x2, x10, x11, x12 => if x12 < (x0.length : Int) then (if 0 ≤ x12 then (if x12 < (x2.length : Int) then (if (rd x2 x12) ≤ (rd x0 x12) then (if x12 < (x1.length : Int) then (if (wrap64 ((rd x2 x12) * (rd x1 x12))) < (rd x0 x12) then (if x10.length < 17592186044416 then (if x11.length < 17592186044416 then (slabvaultref13_Clip.l0 k x0 x1 x2 (x10 ++ [wrap64 ((rd x2 x12) * (rd x1 x12))]) (x11 ++ [mn (rd x1 x12) (wrap64 ((rd x0 x12) - (wrap64 ((rd x2 x12) * (rd x1 x12)))))]) (wrap64 (x12 + 1))) else (none)) else (none)) else (if x10.length < 17592186044416 then (if x11.length < 17592186044416 then (slabvaultref13_Clip.l0 k x0 x1 x2 (x10 ++ [rd x0 x12]) (x11 ++ [mn (rd x1 x12) (wrap64 ((rd x0 x12) - (rd x0 x12)))]) (wrap64 (x12 + 1))) else (none)) else (none))) else (none)) else (if x10.length < 17592186044416 then (if x12 < (x1.length : Int) then (if x11.length < 17592186044416 then (slabvaultref13_Clip.l0 k x0 x1 x2 (x10 ++ [rd x0 x12]) (x11 ++ [mn (rd x1 x12) (wrap64 ((rd x0 x12) - (rd x0 x12)))]) (wrap64 (x12 + 1))) else (none)) else (none)) else (none))) else (none)) else (none)) else (some (x10, x11, 0))
def slabvaultref13_Clip.f (k : Nat) (l0 : List Int) (l1 : List Int) (l2 : List Int) : Option (List Int × List Int × Int) := (slabvaultref13_Fit.f k l0 l1).bind fun t188 => (if t188 = 0 then ((slabvaultref13_right.f k l2 (l0.length : Int)).bind fun t189 => (if t189 = true then (slabvaultref13_Clip.l0 k l0 l1 l2 ([] : List Int) ([] : List Int) 0) else (some (([] : List Int), ([] : List Int), 2)))) else (some (([] : List Int), ([] : List Int), t188)))
def slabvaultref13_Clip.T11 : Bool × List (List Nat × List Nat) := (true, [([], []), ([], []), ([0, 1], [0, 1]), ([2], [2]), ([], []), ([], []), ([4, 5], [4, 5]), ([6], [6]), ([3, 7], [3, 7]), ([8], [8]), ([9], [9]), ([9], [9]), ([10, 11, 9], [9, 10, 11]), ([12, 9], [9, 12]), ([9], [9]), ([9], [9]), ([14, 15, 9], [9, 14, 15]), ([16, 9], [9, 16]), ([13, 17, 9], [9, 13, 17]), ([9], [9]), ([9], [9]), ([19, 20, 9], [9, 19, 20]), ([21, 9], [9, 21]), ([18, 22, 9], [9, 18, 22]), ([9, 23], [9, 23])])
def slabvaultref13_Clip.B11 : List Nat := [0, 0, 3, 7, 0, 0, 48, 112, 255, 511, 1023, 1023, 4095, 8191, 1023, 1023, 50175, 115711, 262143, 1023, 1023, 1573887, 3671039, 8388607, 16777215]
def slabvaultref13_Clip.T12 : Bool × List (List Nat × List Nat) := (true, [([], []), ([], []), ([0, 1], [0, 1]), ([2], [2]), ([], []), ([], []), ([4, 5], [4, 5]), ([6], [6]), ([3, 7], [3, 7]), ([8, 0, 1, 2, 3, 4, 5, 6, 7, 8], [8])])
def slabvaultref13_Clip.B12 : List Nat := [0, 0, 3, 7, 0, 0, 48, 112, 255, 511]
def slabvaultref13_Clip.T14 : Bool × List (List Nat × List Nat) := (true, [([], []), ([], []), ([], []), ([1, 2], [1, 2]), ([3], [3]), ([], []), ([], []), ([5, 6], [5, 6]), ([7], [7]), ([], []), ([8, 9], [8, 9]), ([4, 10], [4, 10]), ([11], [11]), ([0, 12], [0, 12]), ([13, 13, 0, 1, 2, 3, 4, 5, 6, 7, 8, 9, 10, 11, 12, 13], [0, 13])])
def slabvaultref13_Clip.B14 : List Nat := [0, 0, 0, 6, 14, 0, 0, 96, 224, 0, 992, 2046, 4094, 8191, 16383]
end Go.Proofs.Ytjbjofmcmjojlab.Wk
end
section
namespace Go.Proofs.Ytjbjofmcmjojlab.Wk
open Go.RowKit Go.Proofs.YtjbjofmcmjojlabW.PrintWords Go.Proofs.YtjbjofmcmjojlabW.PrintLast Go.Proofs.YtjbjofmcmjojlabW.PrintMore
attribute [local go_sem] max2_int min2_int max_two min_two max_three min_three max_four min_four
set_option linter.unusedVariables false
set_option linter.unusedSimpArgs false
def slabvaultlaw13_GridClips.f (k : Nat) (l0 : List Int) (l1 : List Int) (l2 : List Int) : Option (Bool) := (grid_Clip.f k l0 l1 l2).bind fun bt222 => ((slabvaultref13_Clip.f k l0 l1 l2).bind fun bt229 => ((slabvaultlaw13_ints.f k bt222.1 bt229.1).bind fun t236 => (if t236 = true then ((slabvaultlaw13_ints.f k bt222.2.1 bt229.2.1).bind fun t237 => (if t237 = true then (if bt222.2.2 = bt229.2.2 then ((slabvaultlaw13_lives.f).bind fun t238 => (some t238)) else (none)) else (none))) else (none))))
def slabvaultlaw13_GridClips.Pure : Prop := ∀ (l0 : List Int) (l1 : List Int) (l2 : List Int), l0.length ≤ maxLen → l0.length * 8 ≤ 140737488351232 → (∀ x ∈ l0, (Lit.int .i64 x).wf = true) → l1.length ≤ maxLen → l1.length * 8 ≤ 140737488351232 → (∀ x ∈ l1, (Lit.int .i64 x).wf = true) → l2.length ≤ maxLen → l2.length * 8 ≤ 140737488351232 → (∀ x ∈ l2, (Lit.int .i64 x).wf = true) → ∃ k, slabvaultlaw13_GridClips.f k l0 l1 l2 = some true
end Go.Proofs.Ytjbjofmcmjojlab.Wk
end
section
namespace Go.Proofs.Ytjbjofmcmjojlab.Pure
open Go.RowKit Go.Proofs.Ytjbjofmcmjojlab.Wk Go.Proofs.YtjbjofmcmjojlabW.PrintWords Go.Proofs.YtjbjofmcmjojlabW.PrintLast Go.Proofs.YtjbjofmcmjojlabW.PrintMore
theorem wrap_up {i : Nat} {n : Nat} (h : i < n) (hn : n ≤ 9223372036854775807) : wrap64 ((i : Int) + 1) = ((i + 1 : Nat) : Int) := by unfold wrap64; omega
theorem rd_nat (l : List Int) (i : Nat) (h : i < l.length) : rd l (i : Int) = l[i] := by simp [rd, h]
def elemsT (l0 : List Int) : Int × Int := if 4 < l0.length ∨ l0.any badDim = true then (0, 2) else if l0.contains 0 = true then (0, 0) else prodLoop l0 l0.length 0 1
theorem elements_eq (l : List Int) : space_Elements.f l = some (elemsT l) := rfl
theorem ref_l2 (l : List Int) (hm : l.length ≤ 9223372036854775807) (hb : l.any badDim = false) : ∀ (d i : Nat) (n : Int), l.length - i = d → i ≤ l.length → 0 ≤ n → n ≤ 1048576 →
    Ev (fun k => slabvaultref12_Elements.l2 k l n i) (prodLoop l d i n) := by
  intro d
  induction d with
  | zero =>
    intro i n h hi _ _
    refine Ev.step (f := fun _ => some (n, 0)) (fun k => ?_) (Ev.now _)
    simp only [slabvaultref12_Elements.l2]
    rw [if_neg (by omega)]
  | succ d ih =>
    intro i n h hi h0 h1
    have hlt : i < l.length := by omega
    have hg := good_rd hb i hlt
    have hy1 : 0 ≤ n * rd l i := Int.mul_nonneg h0 hg.1
    have hy2 : n * rd l i ≤ 1048576 * 1048576 := Int.mul_le_mul h1 hg.2 hg.1 (by omega)
    have hw : wrap64 (n * rd l i) = n * rd l i := by unfold wrap64; omega
    by_cases hbig : n * rd l i > 1048576
    · refine Ev.step (f := fun _ => some (0, 3)) (fun k => ?_) (by rw [prodLoop, if_pos hbig]; exact Ev.now _)
      simp only [slabvaultref12_Elements.l2]
      rw [if_pos (by omega), if_pos (by omega), hw, if_pos hbig]
    · refine Ev.step (f := fun k => slabvaultref12_Elements.l2 k l (n * rd l i) ((i + 1 : Nat) : Int)) (fun k => ?_) (by rw [prodLoop, if_neg hbig]; exact ih (i + 1) _ (by omega) (by omega) hy1 (by omega))
      simp only [slabvaultref12_Elements.l2]
      rw [if_pos (by omega), if_pos (by omega), hw, if_neg hbig, wrap_up hlt hm]
theorem ref_l1 (l : List Int) (hm : l.length ≤ 9223372036854775807) (hb : l.any badDim = false) : ∀ (d i : Nat), l.length - i = d → i ≤ l.length →
    Ev (fun k => slabvaultref12_Elements.l1 k l 1 i) (if (l.drop i).contains 0 = true then (0, 0) else prodLoop l l.length 0 1) := by
  intro d
  induction d with
  | zero =>
    intro i h hi
    rw [List.drop_eq_nil_of_le (by omega)]
    refine Ev.step (f := fun k => slabvaultref12_Elements.l2 k l 1 0) (fun k => ?_) (ref_l2 l hm hb l.length 0 1 (by omega) (by omega) (by omega) (by omega))
    simp only [slabvaultref12_Elements.l1]
    rw [if_neg (by omega)]
  | succ d ih =>
    intro i h hi
    have hlt : i < l.length := by omega
    rw [List.drop_eq_getElem_cons hlt, List.contains_cons]
    have e := rd_nat l i hlt
    by_cases hz : rd l i = 0
    · refine Ev.step (f := fun _ => some (0, 0)) (fun k => ?_) (by rw [e] at hz; rw [hz]; exact Ev.now _)
      simp only [slabvaultref12_Elements.l1]
      rw [if_pos (by omega), if_pos (by omega), if_pos hz]
    · refine Ev.step (f := fun k => slabvaultref12_Elements.l1 k l 1 ((i + 1 : Nat) : Int)) (fun k => ?_) (by
        have : (0 == l[i]) = false := by
          rw [e] at hz
          exact beq_eq_false_iff_ne.2 (fun h0 => hz h0.symm)
        rw [this, Bool.false_or]
        exact ih (i + 1) (by omega) (by omega))
      simp only [slabvaultref12_Elements.l1]
      rw [if_pos (by omega), if_pos (by omega), if_neg hz, wrap_up hlt hm]
theorem ref_l0 (l : List Int) (hm : l.length ≤ 9223372036854775807) : ∀ (d i : Nat), l.length - i = d → i ≤ l.length → (l.take i).any badDim = false →
    Ev (fun k => slabvaultref12_Elements.l0 k l 1 i) (if (l.drop i).any badDim = true then (0, 2) else if l.contains 0 = true then (0, 0) else prodLoop l l.length 0 1) := by
  intro d
  induction d with
  | zero =>
    intro i h hi hb
    rw [List.drop_eq_nil_of_le (by omega)]
    rw [List.take_of_length_le (by omega)] at hb
    refine Ev.step (f := fun k => slabvaultref12_Elements.l1 k l 1 0) (fun k => ?_) (by
      have := ref_l1 l hm hb l.length 0 (by omega) (by omega)
      rw [List.drop_zero] at this
      rw [if_neg (by simp)]
      exact this)
    simp only [slabvaultref12_Elements.l0]
    rw [if_neg (by omega)]
  | succ d ih =>
    intro i h hi hb
    have hlt : i < l.length := by omega
    have e := rd_nat l i hlt
    rw [List.drop_eq_getElem_cons hlt, List.any_cons]
    by_cases h1 : rd l i < 0
    · refine Ev.step (f := fun _ => some (0, 2)) (fun k => ?_) (by
        have : badDim l[i] = true := by rw [e] at h1; simp [badDim, h1]
        rw [this]; exact Ev.now _)
      simp only [slabvaultref12_Elements.l0]
      rw [if_pos (by omega), if_pos (by omega), if_pos h1]
    · by_cases h2 : rd l i > 1048576
      · refine Ev.step (f := fun _ => some (0, 2)) (fun k => ?_) (by
          have : badDim l[i] = true := by rw [e] at h2; simp [badDim]; omega
          rw [this]; exact Ev.now _)
        simp only [slabvaultref12_Elements.l0]
        rw [if_pos (by omega), if_pos (by omega), if_neg h1, if_pos h2]
      · have hg : badDim l[i] = false := by rw [e] at h1 h2; simp [badDim]; omega
        refine Ev.step (f := fun k => slabvaultref12_Elements.l0 k l 1 ((i + 1 : Nat) : Int)) (fun k => ?_) (by
          rw [hg, Bool.false_or]
          exact ih (i + 1) (by omega) (by omega) (by rw [List.take_succ_eq_append_getElem hlt, List.any_append, hb]; simp [hg]))
        simp only [slabvaultref12_Elements.l0]
        rw [if_pos (by omega), if_pos (by omega), if_neg h1, if_neg h2, wrap_up hlt hm]
theorem refElements_ev (l : List Int) (hm : l.length ≤ 9223372036854775807) : Ev (fun k => slabvaultref12_Elements.f k l) (elemsT l) := by
  unfold elemsT
  by_cases h4 : 4 < l.length
  · rw [if_pos (.inl h4)]
    refine Ev.congr (f := fun _ => some (0, 2)) (fun k => ?_) (Ev.now _)
    unfold slabvaultref12_Elements.f
    rw [if_pos (by omega)]
  · refine Ev.congr (f := fun k => slabvaultref12_Elements.l0 k l 1 0) (fun k => ?_) ?_
    · unfold slabvaultref12_Elements.f
      rw [if_neg (by omega)]
    · have := ref_l0 l hm l.length 0 (by omega) (by omega) (by simp)
      simpa [h4] using this
def fitT (D H : List Int) : Int := if (elemsT D).2 = 0 then (if H.length = D.length then (if H.any badShape = true then 2 else (elemsT H).2) else 2) else (elemsT D).2
theorem fit_eq (D H : List Int) (h : H.length ≤ maxLen) : grid_fit.f D H = some (fitT D H) := by
  unfold grid_fit.f fitT
  rw [elements_eq, elements_eq]
  simp only [Option.bind_some]
  split <;> (try rfl)
  split <;> (try rfl)
  first | rw [if_pos h] | skip
  split <;> rfl
theorem refFit_l0 (H : List Int) (hm : H.length ≤ 9223372036854775807) : ∀ (d i : Nat), H.length - i = d → i ≤ H.length → Ev (fun k => slabvaultref13_Fit.l0 k H i) (if (H.drop i).any badShape = true then 2 else (elemsT H).2) := by
  intro d
  induction d with
  | zero =>
    intro i h hi
    rw [List.drop_eq_nil_of_le (by omega)]
    refine Ev.step (f := fun k => (slabvaultref12_Elements.f k H).bind fun b => some b.2) (fun k => ?_) ?_
    · simp only [slabvaultref13_Fit.l0]
      rw [if_neg (by omega)]
    · rw [if_neg (by simp)]
      exact Ev.bind (refElements_ev H hm) (Ev.now _)
  | succ d ih =>
    intro i h hi
    have hlt : i < H.length := by omega
    have e := rd_nat H i hlt
    rw [List.drop_eq_getElem_cons hlt, List.any_cons]
    by_cases h1 : rd H i < 1
    · refine Ev.step (f := fun _ => some 2) (fun k => ?_) (by
        have : badShape H[i] = true := by rw [e] at h1; simp [badShape, h1]
        rw [this, Bool.true_or, if_pos rfl]; exact Ev.now _)
      simp only [slabvaultref13_Fit.l0]
      rw [if_pos (by omega), if_pos (by omega), if_pos h1]
    · by_cases h2 : rd H i > 1048576
      · refine Ev.step (f := fun _ => some 2) (fun k => ?_) (by
          have : badShape H[i] = true := by rw [e] at h2; simp [badShape]; omega
          rw [this, Bool.true_or, if_pos rfl]; exact Ev.now _)
        simp only [slabvaultref13_Fit.l0]
        rw [if_pos (by omega), if_pos (by omega), if_neg h1, if_pos h2]
      · refine Ev.step (f := fun k => slabvaultref13_Fit.l0 k H ((i + 1 : Nat) : Int)) (fun k => ?_) (by
          have : badShape H[i] = false := by rw [e] at h1 h2; simp [badShape]; omega
          rw [this, Bool.false_or]
          exact ih (i + 1) (by omega) (by omega))
        simp only [slabvaultref13_Fit.l0]
        rw [if_pos (by omega), if_pos (by omega), if_neg h1, if_neg h2, wrap_up hlt hm]
theorem refFit_ev (D H : List Int) (hD : D.length ≤ 9223372036854775807) (hH : H.length ≤ 9223372036854775807) : Ev (fun k => slabvaultref13_Fit.f k D H) (fitT D H) := by
  unfold slabvaultref13_Fit.f fitT
  refine Ev.bind (refElements_ev D hD) ?_
  by_cases h0 : (elemsT D).2 = 0
  · simp only [if_pos h0]
    by_cases hl : H.length = D.length
    · have hl' : (H.length : Int) = (D.length : Int) := by omega
      simp only [if_pos hl, if_pos hl']
      have := refFit_l0 H hH H.length 0 (by omega) (by omega)
      simpa using this
    · have hl' : ¬ (H.length : Int) = (D.length : Int) := by omega
      simp only [if_neg hl, if_neg hl']
      exact Ev.now _
  · simp only [if_neg h0]
    exact Ev.now _
def rightT (c : List Int) (n : Nat) : Bool := decide (c.length = n) && !c.any negCoord
theorem ints_l0 (a : List Int) (hm : a.length ≤ 9223372036854775807) : ∀ (d i : Nat), a.length - i = d → i ≤ a.length → Ev (fun k => slabvaultlaw13_ints.l0 k a a i) true := by
  intro d
  induction d with
  | zero =>
    intro i h hi
    refine Ev.step (f := fun _ => some true) (fun k => ?_) (Ev.now _)
    simp only [slabvaultlaw13_ints.l0]
    rw [if_neg (by omega)]
  | succ d ih =>
    intro i h hi
    have hlt : i < a.length := by omega
    refine Ev.step (f := fun k => slabvaultlaw13_ints.l0 k a a ((i + 1 : Nat) : Int)) (fun k => ?_) (ih (i + 1) (by omega) (by omega))
    simp only [slabvaultlaw13_ints.l0]
    rw [if_pos (by omega), if_pos (by omega), if_pos (by omega), if_true, wrap_up hlt hm]
theorem ints_ev (a : List Int) (hm : a.length ≤ 9223372036854775807) : Ev (fun k => slabvaultlaw13_ints.f k a a) true := by
  unfold slabvaultlaw13_ints.f
  simp only [if_true]
  exact ints_l0 a hm a.length 0 (by omega) (by omega)
structure Good (D H : List Int) : Prop where
  len : D.length ≤ 4
  same : H.length = D.length
  dims : ∀ i : Nat, i < D.length → 0 ≤ rd D i ∧ rd D i ≤ 1048576
  shape : ∀ i : Nat, i < D.length → 1 ≤ rd H i ∧ rd H i ≤ 1048576
theorem good_of_fit {D H : List Int} (h : fitT D H = 0) : Good D H := by
  unfold fitT at h
  split at h
  case isFalse => contradiction
  case isTrue h0 =>
  split at h
  case isFalse => cases h
  case isTrue hl =>
  split at h
  case isTrue => cases h
  case isFalse hs =>
  have hs : H.any badShape = false := by simpa using hs
  unfold elemsT at h0
  split at h0
  case isTrue => cases h0
  case isFalse hd =>
  have hd1 : D.length ≤ 4 := by
    rcases Nat.lt_or_ge 4 D.length with h4 | h4
    · exact absurd (.inl h4) hd
    · exact h4
  have hd2 : D.any badDim = false := by
    cases hb : D.any badDim
    · rfl
    · exact absurd (.inr hb) hd
  refine ⟨hd1, hl, fun i hi => good_rd hd2 i hi, fun i hi => ?_⟩
  have hi2 : i < H.length := by omega
  rw [rd_nat H i hi2]
  have := List.any_eq_false.1 hs _ (List.getElem_mem hi2)
  simp [badShape] at this
  omega
def clipAt (D H c : Int) : Int := if c * H < D then c * H else D
def clipS (D H c : List Int) (i : Nat) : List Int := (List.range' i (D.length - i)).map fun (d : Nat) => clipAt (rd D d) (rd H d) (rd c d)
def clipP (D H c : List Int) (i : Nat) : List Int := (List.range' i (D.length - i)).map fun (d : Nat) => mn (rd H d) (rd D d - clipAt (rd D d) (rd H d) (rd c d))
def clipT (D H c : List Int) : List Int × List Int × Int := if fitT D H = 0 then (if rightT c D.length = true then (clipS D H c 0, clipP D H c 0, 0) else ([], [], 2)) else ([], [], fitT D H)
end Go.Proofs.Ytjbjofmcmjojlab.Pure
end
section
namespace Go.Proofs.Ytjbjofmcmjojlab.Pure
open Go.RowKit Go.Proofs.Ytjbjofmcmjojlab.Wk Go.Proofs.YtjbjofmcmjojlabW.PrintWords Go.Proofs.YtjbjofmcmjojlabW.PrintLast Go.Proofs.YtjbjofmcmjojlabW.PrintMore
def chunkL (D H : List Int) : Nat → Nat → Int → Int
  | 0, _, n => n
  | d + 1, i, n => chunkL D H d (i + 1) (wrap64 (n * wrap64 (Int.tdiv (wrap64 (wrap64 (rd D i + rd H i) - 1)) (rd H i))))
def chunksT (D H : List Int) : Int × Int := if fitT D H = 0 then (chunkL D H D.length 0 1, 0) else (0, fitT D H)
theorem chunks_l0 (D H : List Int) (hg : Good D H) : ∀ (d i : Nat) (n : Int), D.length - i = d → i ≤ D.length → Ev (fun k => grid_Chunks.l0 k D H n (D.length : Int) i) (chunkL D H d i n, 0) := by
  have h4 := hg.len
  have hs := hg.same
  intro d
  induction d with
  | zero =>
    intro i n h hi
    refine Ev.step (f := fun _ => some (n, 0)) (fun k => ?_) (Ev.now _)
    simp only [grid_Chunks.l0]
    rw [if_neg (by omega)]
  | succ d ih =>
    intro i n h hi
    have hlt : i < D.length := by omega
    have hH := hg.shape i hlt
    refine Ev.step (f := fun k => grid_Chunks.l0 k D H _ (D.length : Int) ((i + 1 : Nat) : Int)) (fun k => ?_) (ih (i + 1) _ (by omega) (by omega))
    simp only [grid_Chunks.l0]
    rw [if_pos (by omega), if_pos (by omega), if_pos (by omega), if_pos (by omega), if_neg (by omega), wrap_up hlt (by omega)]
theorem refChunks_l0 (D H : List Int) (hg : Good D H) : ∀ (d i : Nat) (n : Int), D.length - i = d → i ≤ D.length → Ev (fun k => slabvaultref13_Chunks.l0 k D H n i) (chunkL D H d i n, 0) := by
  have h4 := hg.len
  have hs := hg.same
  intro d
  induction d with
  | zero =>
    intro i n h hi
    refine Ev.step (f := fun _ => some (n, 0)) (fun k => ?_) (Ev.now _)
    simp only [slabvaultref13_Chunks.l0]
    rw [if_neg (by omega)]
  | succ d ih =>
    intro i n h hi
    have hlt : i < D.length := by omega
    have hH := hg.shape i hlt
    refine Ev.step (f := fun k => slabvaultref13_Chunks.l0 k D H _ ((i + 1 : Nat) : Int)) (fun k => ?_) (ih (i + 1) _ (by omega) (by omega))
    simp only [slabvaultref13_Chunks.l0]
    rw [if_pos (by omega), if_pos (by omega), if_pos (by omega), if_neg (by omega), wrap_up hlt (by omega)]
theorem chunks_ev (D H : List Int) (hH : H.length ≤ maxLen) : Ev (fun k => grid_Chunks.f k D H) (chunksT D H) := by
  unfold grid_Chunks.f chunksT
  rw [fit_eq D H hH]
  simp only [Option.bind_some]
  by_cases h0 : fitT D H = 0
  · simp only [if_pos h0]
    exact chunks_l0 D H (good_of_fit h0) D.length 0 1 (by omega) (by omega)
  · simp only [if_neg h0]
    exact Ev.now _
theorem refChunks_ev (D H : List Int) (hD : D.length ≤ 9223372036854775807) (hH : H.length ≤ 9223372036854775807) : Ev (fun k => slabvaultref13_Chunks.f k D H) (chunksT D H) := by
  unfold slabvaultref13_Chunks.f chunksT
  refine Ev.bind (refFit_ev D H hD hH) ?_
  by_cases h0 : fitT D H = 0
  · simp only [if_pos h0]
    exact refChunks_l0 D H (good_of_fit h0) D.length 0 1 (by omega) (by omega)
  · simp only [if_neg h0]
    exact Ev.now _
theorem le_of_wf {l : List Int} (h : ∀ x ∈ l, (Lit.int .i64 x).wf = true) : ∀ x ∈ l, x ≤ 9223372036854775807 := by
  intro x hx
  have := h x hx
  simp only [Lit.wf, Bool.and_eq_true, decide_eq_true_eq] at this
  exact this.2
def ofT (A S : List Int) : List Int × List Int × Int := if 4 < A.length ∨ A.length ≠ S.length then ([], [], 2) else ofLoop A S A.length 0 [] []
theorem of_eq (A S : List Int) (hx : ∀ x ∈ A, x ≤ 9223372036854775807) (hA : A.length ≤ 9223372036854775807) (hS : S.length ≤ 9223372036854775807) : grid_Of.f A S = some (ofT A S) := by
  unfold grid_Of.f ofT
  rw [if_pos ⟨hx, hA, hS⟩]
theorem refOf_l0 (A S : List Int) (hx : ∀ x ∈ A, x ≤ 9223372036854775807) (h4 : A.length ≤ 4) (hs : A.length = S.length) : ∀ (d i : Nat) (x y : List Int), A.length - i = d → i ≤ A.length → x.length ≤ i → y.length ≤ i →
    Ev (fun k => slabvaultref13_Of.l0 k A S x y i) (ofLoop A S d i x y) := by
  intro d
  induction d with
  | zero =>
    intro i x y h hi _ _
    refine Ev.step (f := fun _ => some (x, y, 0)) (fun k => ?_) (Ev.now _)
    simp only [slabvaultref13_Of.l0]
    rw [if_neg (by omega)]
  | succ d ih =>
    intro i x y h hi hlx hly
    have hlt : i < A.length := by omega
    have hmax : rd A i ≤ 9223372036854775807 := by rw [rd_nat A i hlt]; exact hx _ (List.getElem_mem hlt)
    simp only [ofLoop]
    by_cases c : rd A i < 0 ∨ rd S i < 1 ∨ 1048576 < rd S i
    · rw [if_pos c]
      refine Ev.step (f := fun _ => some ([], [], 2)) (fun k => ?_) (Ev.now _)
      simp only [slabvaultref13_Of.l0]
      rw [if_pos (by omega), if_pos (by omega)]
      by_cases c1 : rd A i < 0
      · rw [if_pos c1]
      · rw [if_neg c1, if_pos (by omega)]
        by_cases c2 : rd S i < 1
        · rw [if_pos c2]
        · rw [if_neg c2, if_pos (by omega)]
    · rw [if_neg c]
      refine Ev.step (f := fun k => slabvaultref13_Of.l0 k A S (x ++ [rd A i / rd S i]) (y ++ [rd A i % rd S i]) ((i + 1 : Nat) : Int)) (fun k => ?_) (ih (i + 1) _ _ (by omega) (by omega) (by simp; omega) (by simp; omega))
      have hq : wrap64 (Int.tdiv (rd A i) (rd S i)) = rd A i / rd S i := by
        have h1 : 0 ≤ rd A i / rd S i := Int.ediv_nonneg (by omega) (by omega)
        have h2 : rd A i / rd S i ≤ rd A i := Int.ediv_le_self _ (by omega)
        rw [Int.tdiv_eq_ediv_of_nonneg (by omega)]; unfold wrap64; omega
      have hm : Int.tmod (rd A i) (rd S i) = rd A i % rd S i := Int.tmod_eq_emod_of_nonneg (by omega)
      simp only [slabvaultref13_Of.l0]
      rw [if_pos (by omega), if_pos (by omega), if_neg (by omega), if_pos (by omega), if_neg (by omega), if_neg (by omega), if_neg (by omega), if_pos (by omega), if_pos (by omega), hq, hm, wrap_up hlt (by omega)]
theorem refOf_ev (A S : List Int) (hx : ∀ x ∈ A, x ≤ 9223372036854775807) : Ev (fun k => slabvaultref13_Of.f k A S) (ofT A S) := by
  unfold ofT
  by_cases h4 : 4 < A.length
  · rw [if_pos (.inl h4)]
    refine Ev.congr (f := fun k => slabvaultref13_Of.j0 k A S true) (fun k => ?_) (Ev.step (f := fun _ => some ([], [], 2)) (fun k => ?_) (Ev.now _))
    · unfold slabvaultref13_Of.f
      rw [if_pos (by omega)]
    · simp only [slabvaultref13_Of.j0, if_true]
  · by_cases hs : A.length = S.length
    · rw [if_neg (by omega)]
      refine Ev.congr (f := fun k => slabvaultref13_Of.j0 k A S false) (fun k => ?_) (Ev.step (f := fun k => slabvaultref13_Of.l0 k A S [] [] 0) (fun k => ?_) (refOf_l0 A S hx (by omega) hs A.length 0 [] [] (by omega) (by omega) (by simp) (by simp)))
      · unfold slabvaultref13_Of.f
        have e : ((A.length : Int) != (S.length : Int)) = false := by simpa using (show ((A.length : Int) = (S.length : Int)) by omega)
        rw [if_neg (by omega), e]
      · simp only [slabvaultref13_Of.j0]
        rfl
    · rw [if_pos (.inr hs)]
      refine Ev.congr (f := fun k => slabvaultref13_Of.j0 k A S true) (fun k => ?_) (Ev.step (f := fun _ => some ([], [], 2)) (fun k => ?_) (Ev.now _))
      · unfold slabvaultref13_Of.f
        have e : ((A.length : Int) != (S.length : Int)) = true := by simpa using (show ¬ ((A.length : Int) = (S.length : Int)) by omega)
        rw [if_neg (by omega), e]
      · simp only [slabvaultref13_Of.j0, if_true]
theorem ofLoop_len (A S : List Int) : ∀ (d i : Nat) (x y : List Int), x.length ≤ i → y.length ≤ i → (ofLoop A S d i x y).1.length ≤ i + d ∧ (ofLoop A S d i x y).2.1.length ≤ i + d
  | 0, i, x, y, hx, hy => ⟨by simpa [ofLoop] using hx, by simpa [ofLoop] using hy⟩
  | d + 1, i, x, y, hx, hy => by
    simp only [ofLoop]
    split
    · simp
    · have := ofLoop_len A S d (i + 1) (x ++ [rd A i / rd S i]) (y ++ [rd A i % rd S i]) (by simp; omega) (by simp; omega)
      omega
theorem ofT_len (A S : List Int) : (ofT A S).1.length ≤ 4 ∧ (ofT A S).2.1.length ≤ 4 := by
  unfold ofT
  split
  · simp
  · have := ofLoop_len A S A.length 0 [] [] (by simp) (by simp)
    omega
end Go.Proofs.Ytjbjofmcmjojlab.Pure
end
section
namespace Go.Proofs.Ytjbjofmcmjojlab.Pure
open Go.RowKit Go.Proofs.Ytjbjofmcmjojlab.Wk Go.Proofs.YtjbjofmcmjojlabW.PrintWords Go.Proofs.YtjbjofmcmjojlabW.PrintLast
theorem GridCounts : slabvaultlaw13_GridCounts.Pure := by
  intro D H A hD _ _ hH _ _ hA _ wA
  have hm : maxLen ≤ 9223372036854775807 := by unfold maxLen; omega
  refine Ev.rounds (g := fun k => slabvaultlaw13_GridCounts.f k D H A) (r := true) ?_
  unfold slabvaultlaw13_GridCounts.f
  have hl := ofT_len A H
  have hx := le_of_wf wA
  rw [of_eq A H hx (by omega) (by omega)]
  refine Ev.bind (chunks_ev D H hH) (Ev.bind (refChunks_ev D H (by omega) (by omega)) ?_)
  simp only [Option.bind_some]
  refine Ev.bind (refOf_ev A H hx) ?_
  simp only [if_true]
  refine Ev.bind (ints_ev _ (by omega)) ?_
  simp only [if_true]
  refine Ev.bind (ints_ev _ (by omega)) ?_
  simp only [if_true]
  exact Ev.now true
end Go.Proofs.Ytjbjofmcmjojlab.Pure
end
