-- Texts that the row GridGrows leans on, joined by wip/tools/mkclaim.py: Wk21, Wk22, Wk25, Wk26, Wk27, Wk36, Wk37, Wk38, Wk39, Wk40, Wk41, Wk48, Wk58, Wk1, Wk28, Wk33, Wk34, Wk35, Plain13, Wk29, Wk30, Wk31, Wk32, Plain13b, Wk54, Wk55, PlainCover, PlainByte, Wk42, Wk43, Wk44, Wk45, Wk46, Wk50, PlainCut, PlainCut2, PlainCut3, PlainCut4, PlainCut5, Wk52, PlainResize, PlainHeavy, PureGridGrows
import Derived.Test.YtjbjofmcmjojlabCGridGrows1
section
namespace Go.Proofs.Ytjbjofmcmjojlab.Wk
open Go.RowKit Go.Proofs.YtjbjofmcmjojlabW.PrintWords Go.Proofs.YtjbjofmcmjojlabW.PrintLast Go.Proofs.YtjbjofmcmjojlabW.PrintMore
attribute [local go_sem] max2_int min2_int max_two min_two max_three min_three max_four min_four
set_option linter.unusedVariables false
set_option linter.unusedSimpArgs false
section
open Go.Proofs.YtjbjofmcmjojlabQ
structure grid_Cut1Mem (BD : Nat) (AD : Option Addr) (cD : Nat) (D : List Int) (BS : Nat) (AS : Option Addr) (cS : Nat) (S : List Int) (BZ : Nat) (z : Int) (BH : Nat) (AH : Option Addr) (cH : Nat) (H : List Int) (BO : Nat) (g n cO : Nat) (BX : Nat) (aX : Addr) (cX : Nat) (X : List Int) (W : World) : Prop where
  bD : W.cell? ⟨BD, 0, none⟩ = some (.slice AD D.length cD)
  bS : W.cell? ⟨BS, 0, none⟩ = some (.slice AS S.length cS)
  bZ : W.cell? ⟨BZ, 0, none⟩ = some (.int .i64 z)
  bH : W.cell? ⟨BH, 0, none⟩ = some (.slice AH H.length cH)
  bO : W.cell? ⟨BO, 0, none⟩ = some (.slice (some ⟨g, 0, none⟩) n cO)
  bX : W.cell? ⟨BX, 0, none⟩ = some (.slice (some aX) X.length cX)
  rD : (Kd.int .i64).C W AD D.length D
  lD : D.length ≤ cD
  rS : (Kd.int .i64).C W AS S.length S
  lS : S.length ≤ cS
  rH : (Kd.int .i64).C W AH H.length H
  lH : H.length ≤ cH
  lO : n ≤ cO
  rX : (Kd.int .u8).C W (some aX) X.length X
  lX : X.length ≤ cX
theorem grid_Cut1.small (x : Nat) (h : x ≤ 1000000) : wrap64 (x : Int) = (x : Int) := by unfold wrap64; omega
theorem grid_Cut1.big (a b c n : Nat) (h : a + b + c + n ≤ 1000000) : a ≤ 1000000 ∧ b ≤ 1000000 ∧ c ≤ 1000000 ∧ a + c ≤ 1000000 := by omega
theorem grid_Cut1.arith (a b c n hi cX L cO : Nat) (h0 : n ≤ cO) (h1 : a + c ≤ L) (h2 : b + c ≤ n) (h3 : 1 ≤ c) (h4 : L ≤ cX) (h5 : a + c = hi) : (b : Int) ≤ (n : Int) ∧ (a : Int) ≤ (hi : Int) ∧ (hi : Int) ≤ (cX : Int) ∧ ((cO = b) = False) ∧ (n : Int) ≤ (cO : Int) ∧ ((cX = a) = False) := ⟨by omega, by omega, by omega, eq_false (by omega), by omega, eq_false (by omega)⟩
set_option maxHeartbeats 4000000 in
set_option maxRecDepth 10000 in
theorem grid_Cut1.calls (k0 k1 k2 : Nat) (BD : Nat) (AD : Option Addr) (cD : Nat) (D : List Int) (BS : Nat) (AS : Option Addr) (cS : Nat) (S : List Int) (BZ : Nat) (z : Int) (BH : Nat) (AH : Option Addr) (cH : Nat) (H : List Int) (BO : Nat) (g n cO : Nat) (BX : Nat) (aX : Addr) (cX : Nat) (X : List Int) (A0 : Option Addr) (c0 : Nat) (at_ : List Int) (m : Int) (mv : List Int) (p1 p2 : Int) (a b c base : Nat) (O : List Int) (ok : Nat → Prop) (W : World)
    (hM : Foot (grid_Cut1Mem BD AD cD D BS AS cS S BZ z BH AH cH H BO g n cO BX aX cX X) W ok) (hok : ∀ k, ok k → k ≠ g) (hg : g < base) (hbase : base ≤ W.heap.size) (hB : Buf 5 W g n O) (hO : O.length = n)
    (hr0 : (Kd.int .i64).C W A0 at_.length at_) (hc0 : at_.length ≤ c0) (h0 : grid_moved.f k0 at_ S = some mv) (h1 : grid_place.f k1 D mv = some p1) (h2 : grid_place.f k2 H at_ = some p2)
    (ha : p1 * z = (a : Int)) (hb : p2 * z = (b : Int)) (hc : m * z = (c : Int)) (hc1 : 1 ≤ c) (hac : a + c ≤ X.length) (hbc : b + c ≤ n) (hbig : a + b + c + n ≤ 1000000) :
    Calls Try.prog 41 (#[.slice A0 at_.length c0, .int .i64 m] ++ #[.pointer (some ⟨BD, 0, none⟩), .pointer (some ⟨BS, 0, none⟩), .pointer (some ⟨BZ, 0, none⟩), .pointer (some ⟨BH, 0, none⟩), .pointer (some ⟨BO, 0, none⟩), .pointer (some ⟨BX, 0, none⟩)]) W fun e W' => e = .returned (.tuple #[]) ∧ Buf 5 W' g n (laid O b ((X.drop a).take c)) ∧ Foot (grid_Cut1Mem BD AD cD D BS AS cS S BZ z BH AH cH H BO g n cO BX aX cX X) W' ok ∧ W.grownBy W' (some g) := by
  have HM := Aside0.mk hM
  have HB := Aside0.mk hB
  have HR := Aside0.mk hr0
  have HC := Aside0.mk hc0
  have H0 := Aside0.mk h0
  have H1 := Aside0.mk h1
  have H2 := Aside0.mk h2
  have AR := Aside0.mk (show a + c ≤ X.length ∧ b + c ≤ n ∧ 1 ≤ c ∧ a + b + c + n ≤ 1000000 ∧ g < base ∧ base ≤ W.heap.size from ⟨hac, hbc, hc1, hbig, hg, hbase⟩)
  have HOK := Aside0.mk hok
  have HO := Aside0.mk hO
  have BIG := grid_Cut1.big a b c n hbig
  have wz : ∀ x : Nat, x ≤ 1000000 → wrap64 (x : Int) = (x : Int) := grid_Cut1.small
  have wa : wrap64 (p1 * z) = (a : Int) := by rw [ha]; exact wz a BIG.1
  have wb : wrap64 (p2 * z) = (b : Int) := by rw [hb]; exact wz b BIG.2.1
  have wc : wrap64 (m * z) = (c : Int) := by rw [hc]; exact wz c BIG.2.2.1
  obtain ⟨hi, hhi⟩ : ∃ hi, a + c = hi := ⟨_, rfl⟩
  have wd : wrap64 ((a : Int) + (c : Int)) = (hi : Int) := by rw [← hhi]; exact wz (a + c) BIG.2.2.2
  have hmem := hM.now
  have hcX := hmem.lX
  have i1 : (0 : Int) ≤ (b : Int) := Int.natCast_nonneg _
  have i3 : (0 : Int) ≤ (a : Int) := Int.natCast_nonneg _
  obtain ⟨i2, i4, i5, e1, i6, e2⟩ := grid_Cut1.arith a b c n hi cX _ cO hmem.lO hac hbc hc1 hcX hhi
  have HHI := Aside0.mk hhi
  have HCX := Aside0.mk hcX
  have HMEM := Aside0.mk hmem
  clear hM hok hg hbase hB hO hr0 hc0 h0 h1 h2 ha hb hc hc1 hac hbc hbig hhi hcX hmem
  show Calls Try.prog 41 #[.slice A0 at_.length c0, .int .i64 m, .pointer (some ⟨BD, 0, none⟩), .pointer (some ⟨BS, 0, none⟩), .pointer (some ⟨BZ, 0, none⟩), .pointer (some ⟨BH, 0, none⟩), .pointer (some ⟨BO, 0, none⟩), .pointer (some ⟨BX, 0, none⟩)] W _
  go_enter Try.func41, Try.ntmps41
  go_upto_region 0 with (fail)
  refine start_ (n := 14) (S := fun W' => Below W.heap.size W W' ∧ grid_Cut1Mem BD AD cD D BS AS cS S BZ z BH AH cH H BO g n cO BX aX cX X W') (ds := []) #[false, false, false, false, false, false, false, false, false, false, false, false, false, false] (by kernel_rfl) rfl rfl ⟨below_drew (Below.refl _ _), HM.out W.drew (fun _ _ _ => rfl)⟩ (fun hHeld => ?_)
  refine pure_ (i := 1) (N := some 13) (v := ?_) (a' := ?_) #[false, true, false, false, false, false, false, false, false, false, false, false, false, false] rfl rfl (by kernel_rfl) (fun _ _ _ h => h) (Or.inl ⟨by rfl, ?_⟩) ?_ ?_
  rotate_left
  · intro w'
    go_simp
    with_reducible rfl
  rotate_left
  · simp only [Act.put, List.setIfInBounds_toArray, List.set_cons_zero, List.set_cons_succ, i64_w, i32_w]
    rfl
  refine pure_ (i := 8) (N := some 20) (v := ?_) (a' := ?_) #[false, true, false, false, false, false, false, false, true, false, false, false, false, false] rfl rfl (by kernel_rfl) (fun _ _ _ h => h) (Or.inl ⟨by rfl, ?_⟩) ?_ ?_
  rotate_left
  · intro w'
    go_simp
    with_reducible rfl
  rotate_left
  · simp only [Act.put, List.setIfInBounds_toArray, List.set_cons_zero, List.set_cons_succ, i64_w, i32_w]
    rfl
  refine take_ (i := 0) (N := some 12) (v := ?_) (a' := ?_) #[true, true, false, false, false, false, false, false, true, false, false, false, false, false] rfl rfl (by kernel_rfl) (fun _ _ _ h => h) (Or.inl ⟨by rfl, ?_⟩) hHeld ?_ ?_
  rotate_left
  · rintro w' ⟨hB_, ⟨bD_, bS_, bZ_, bH_, bO_, bX_, rD_, lD_, rS_, lS_, rH_, lH_, lO_, rX_, lX_⟩⟩
    go_simp
    with_reducible rfl
  rotate_left
  · simp only [Act.put, List.setIfInBounds_toArray, List.set_cons_zero, List.set_cons_succ, i64_w, i32_w]
    rfl
  refine take_ (i := 2) (N := some 14) (v := ?_) (a' := ?_) #[true, true, true, false, false, false, false, false, true, false, false, false, false, false] rfl rfl (by kernel_rfl) (fun _ _ _ h => h) (Or.inl ⟨by rfl, ?_⟩) hHeld ?_ ?_
  rotate_left
  · rintro w' ⟨hB_, ⟨bD_, bS_, bZ_, bH_, bO_, bX_, rD_, lD_, rS_, lS_, rH_, lH_, lO_, rX_, lX_⟩⟩
    go_simp
    with_reducible rfl
  rotate_left
  · simp only [Act.put, List.setIfInBounds_toArray, List.set_cons_zero, List.set_cons_succ, i64_w, i32_w]
    rfl
  refine take_ (i := 5) (N := some 17) (v := ?_) (a' := ?_) #[true, true, true, false, false, true, false, false, true, false, false, false, false, false] rfl rfl (by kernel_rfl) (fun _ _ _ h => h) (Or.inl ⟨by rfl, ?_⟩) hHeld ?_ ?_
  rotate_left
  · rintro w' ⟨hB_, ⟨bD_, bS_, bZ_, bH_, bO_, bX_, rD_, lD_, rS_, lS_, rH_, lH_, lO_, rX_, lX_⟩⟩
    go_simp
    with_reducible rfl
  rotate_left
  · simp only [Act.put, List.setIfInBounds_toArray, List.set_cons_zero, List.set_cons_succ, i64_w, i32_w]
    rfl
  refine take_ (i := 7) (N := some 19) (v := ?_) (a' := ?_) #[true, true, true, false, false, true, false, true, true, false, false, false, false, false] rfl rfl (by kernel_rfl) (fun _ _ _ h => h) (Or.inl ⟨by rfl, ?_⟩) hHeld ?_ ?_
  rotate_left
  · rintro w' ⟨hB_, ⟨bD_, bS_, bZ_, bH_, bO_, bX_, rD_, lD_, rS_, lS_, rH_, lH_, lO_, rX_, lX_⟩⟩
    go_simp
    with_reducible rfl
  rotate_left
  · simp only [Act.put, List.setIfInBounds_toArray, List.set_cons_zero, List.set_cons_succ, i64_w, i32_w]
    rfl
  refine take_ (i := 10) (N := some 22) (v := ?_) (a' := ?_) #[true, true, true, false, false, true, false, true, true, false, true, false, false, false] rfl rfl (by kernel_rfl) (fun _ _ _ h => h) (Or.inl ⟨by rfl, ?_⟩) hHeld ?_ ?_
  rotate_left
  · rintro w' ⟨hB_, ⟨bD_, bS_, bZ_, bH_, bO_, bX_, rD_, lD_, rS_, lS_, rH_, lH_, lO_, rX_, lX_⟩⟩
    go_simp
    with_reducible rfl
  rotate_left
  · simp only [Act.put, List.setIfInBounds_toArray, List.set_cons_zero, List.set_cons_succ, i64_w, i32_w]
    rfl
  refine one_ (i := 3) (N := some 15) #[true, true, true, true, false, true, false, true, true, false, true, false, false, false] rfl rfl (by kernel_rfl) (by decide) (fun K hK => ?_)
  skip
  refine goes_ Try.func43 (by kernel_rfl) rfl #[.slice A0 at_.length c0, .slice AS S.length cS] (by rfl) rfl rfl (by (simp only [List.map_toArray, List.map_cons, List.map_nil]); rfl) ?_
  refine (grid_moved.calls k0 A0 c0 at_ AS cS S mv _ (Kd.C_below HR.out hHeld.1) (HC.out) (hHeld.2.rS) (hHeld.2.lS) H0.out).mono ?_
  rintro e_ W0 ⟨v_, rfl, hv, hb⟩
  obtain ⟨Av, cv, rfl⟩ := Kd.R_slice hv
  have HV := Aside0.mk hv
  clear hv
  have hBn := below_then hHeld.1 hHeld.1.size hb
  clear hb
  refine ⟨_, rfl, ?_⟩
  refine hK.out _ _ ⟨hBn, HM.out _ (fun k _ hlt => hBn.block k hlt)⟩ (fun hHeld => ?_)
  clear hK K hBn
  refine norm_ (a' := ?_) ?_ ?_
  rotate_left
  · show Act.put _ (some 15) _ = _
    simp only [Act.put, List.setIfInBounds_toArray, List.set_cons_zero, List.set_cons_succ, i64_w, i32_w]
    rfl
  refine one_ (i := 4) (N := some 16) #[true, true, true, true, true, true, false, true, true, false, true, false, false, false] rfl rfl (by kernel_rfl) (by decide) (fun K hK => ?_)
  skip
  refine goes_ Try.func42 (by kernel_rfl) rfl #[.slice AD D.length cD, .slice Av mv.length cv] (by rfl) rfl rfl (by (simp only [List.map_toArray, List.map_cons, List.map_nil]); rfl) ?_
  refine (grid_place.calls k1 AD cD D Av cv mv p1 _ (hHeld.2.rD) (hHeld.2.lD) ((Kd.R_reads' HV.out).2.2) ((Kd.R_reads' HV.out).2.1) H1.out).mono ?_
  rintro e_ W1 ⟨rfl, ⟨q1, rfl⟩⟩
  have hBn := pw_below_drewN hHeld.1 q1
  have HV' := Aside0.mk (Kd.R_drewN HV.out q1)
  clear HV
  have HV := HV'
  clear HV'
  refine ⟨_, rfl, ?_⟩
  refine hK.out _ _ ⟨hBn, HM.out _ (fun k _ hlt => hBn.block k hlt)⟩ (fun hHeld => ?_)
  clear hK K hBn
  refine norm_ (a' := ?_) ?_ ?_
  rotate_left
  · show Act.put _ (some 16) _ = _
    simp only [Act.put, List.setIfInBounds_toArray, List.set_cons_zero, List.set_cons_succ, i64_w, i32_w]
    rfl
  refine pure_ (i := 6) (N := some 18) (v := ?_) (a' := ?_) #[true, true, true, true, true, true, true, true, true, false, true, false, false, false] rfl rfl (by kernel_rfl) (fun _ _ _ h => h) (Or.inl ⟨by rfl, ?_⟩) ?_ ?_
  rotate_left
  · intro w'
    go_simp
    with_reducible rfl
  rotate_left
  · simp only [Act.put, List.setIfInBounds_toArray, List.set_cons_zero, List.set_cons_succ, i64_w, i32_w]
    rfl
  refine one_ (i := 9) (N := some 21) #[true, true, true, true, true, true, true, true, true, true, true, false, false, false] rfl rfl (by kernel_rfl) (by decide) (fun K hK => ?_)
  skip
  refine goes_ Try.func42 (by kernel_rfl) rfl #[.slice AH H.length cH, .slice A0 at_.length c0] (by rfl) rfl rfl (by (simp only [List.map_toArray, List.map_cons, List.map_nil]); rfl) ?_
  refine (grid_place.calls k2 AH cH H A0 c0 at_ p2 _ (hHeld.2.rH) (hHeld.2.lH) (Kd.C_below HR.out hHeld.1) (HC.out) H2.out).mono ?_
  rintro e_ W2 ⟨rfl, ⟨q2, rfl⟩⟩
  have hBn := pw_below_drewN hHeld.1 q2
  have HV' := Aside0.mk (Kd.R_drewN HV.out q2)
  clear HV
  have HV := HV'
  clear HV'
  refine ⟨_, rfl, ?_⟩
  refine hK.out _ _ ⟨hBn, HM.out _ (fun k _ hlt => hBn.block k hlt)⟩ (fun hHeld => ?_)
  clear hK K hBn
  refine norm_ (a' := ?_) ?_ ?_
  rotate_left
  · show Act.put _ (some 21) _ = _
    simp only [Act.put, List.setIfInBounds_toArray, List.set_cons_zero, List.set_cons_succ, i64_w, i32_w]
    rfl
  refine pure_ (i := 11) (N := some 23) (v := ?_) (a' := ?_) #[true, true, true, true, true, true, true, true, true, true, true, true, false, false] rfl rfl (by kernel_rfl) (fun _ _ _ h => h) (Or.inl ⟨by rfl, ?_⟩) ?_ ?_
  rotate_left
  · intro w'
    go_simp
    with_reducible rfl
  rotate_left
  · simp only [Act.put, List.setIfInBounds_toArray, List.set_cons_zero, List.set_cons_succ, i64_w, i32_w]
    rfl
  refine pure_ (i := 12) (N := some 10) (v := ?_) (a' := ?_) #[true, true, true, true, true, true, true, true, true, true, true, true, true, false] rfl rfl (by kernel_rfl) (fun _ _ _ h => h) (Or.inl ⟨by rfl, ?_⟩) ?_ ?_
  rotate_left
  · intro w'
    go_simp
    with_reducible rfl
  rotate_left
  · simp only [Act.put, List.setIfInBounds_toArray, List.set_cons_zero, List.set_cons_succ, i64_w, i32_w]
    rfl
  refine pure_ (i := 13) (N := some 11) (v := ?_) (a' := ?_) #[true, true, true, true, true, true, true, true, true, true, true, true, true, true] rfl rfl (by kernel_rfl) (fun _ _ _ h => h) (Or.inl ⟨by rfl, ?_⟩) ?_ ?_
  rotate_left
  · intro w'
    go_simp
    with_reducible rfl
  rotate_left
  · simp only [Act.put, List.setIfInBounds_toArray, List.set_cons_zero, List.set_cons_succ, i64_w, i32_w]
    rfl
  refine done_ (by kernel_rfl) ?_
  go_wp2
  have HB0 := Aside0.mk hHeld.1
  clear hHeld
  generalize hWr : (((W0).drewN q1).drewN q2) = Wr at HB0 ⊢
  have BF : Buf 5 Wr.drew g n O := HB.out.step (HB0.out.block g (by have := AR.out; omega))
  have MEM : grid_Cut1Mem BD AD cD D BS AS cS S BZ z BH AH cH H BO g n cO BX aX cX X Wr := HM.out _ (fun k _ hlt => HB0.out.block k hlt)
  have HMW := Aside0.mk MEM
  have hlen : ((X.drop a).take c).length = c := by have := AR.out; simp; omega
  obtain ⟨W2, hr2, B2, hg2⟩ := BF.copy (P := Try.prog) (t := 31) (t' := 31) (ty := 3) (o := b) (dLen := n - b) (dCap := cO - b) (m := hi - a) (c := cX - a) (ad := aX.add a) (ys := (X.drop a).take c) Try.underlying31 (by kernel_rfl) (by have := AR.out; have := HO.out; omega) (by rw [hlen]; have := AR.out; have := HHI.out; omega) (by rw [hlen]; have := AR.out; omega)
    (fun j hj => by
      rw [hlen] at hj
      obtain ⟨_, _, hx⟩ := Kd.reads_of_C (d := (0 : Int)) HMW.out.rX
      obtain ⟨ad, e, hx⟩ := hx (by have := AR.out; omega)
      cases e
      have h2 := hx (a + j) (by have := AR.out; omega)
      rw [show (aX.add a).add j = aX.add (a + j) from Addr.add_add _ _ _]
      refine Eq.trans h2 ?_
      simp [List.getD_eq_getElem?_getD, List.getElem?_take, hj])
  rw [hlen] at hr2
  have B2' := Aside0.mk B2
  have G2 := Aside0.mk hg2
  clear BF MEM hlen B2 hg2
  have FS := Aside0.mk (show Foot (grid_Cut1Mem BD AD cD D BS AS cS S BZ z BH AH cH H BO g n cO BX aX cX X) W2 ok from HM.out.step (fun k hk hlt => (G2.out.block k (Nat.lt_of_lt_of_le hlt HB0.out.size) (by have := HOK.out k hk; simpa using this)).trans (HB0.out.block k hlt)))
  refine start_ (n := 12) (S := fun W' => grid_Cut1Mem BD AD cD D BS AS cS S BZ z BH AH cH H BO g n cO BX aX cX X W') (ds := []) #[false, false, false, false, false, false, false, false, false, false, false, false] (by kernel_rfl) rfl rfl (HM.out _ (fun k _ hlt => HB0.out.block k hlt)) (fun hHeld => ?_)
  refine take_ (i := 0) (N := some 24) (v := ?_) (a' := ?_) #[true, false, false, false, false, false, false, false, false, false, false, false] rfl rfl (by kernel_rfl) (fun _ _ _ h => h) (Or.inl ⟨by rfl, ?_⟩) hHeld ?_ ?_
  rotate_left
  · rintro w' ⟨bD_, bS_, bZ_, bH_, bO_, bX_, rD_, lD_, rS_, lS_, rH_, lH_, lO_, rX_, lX_⟩
    go_simp
    with_reducible rfl
  rotate_left
  · simp only [Act.put, List.setIfInBounds_toArray, List.set_cons_zero, List.set_cons_succ, i64_w, i32_w]
    rfl
  refine pure_ (i := 1) (N := some 25) (v := ?_) (a' := ?_) #[true, true, false, false, false, false, false, false, false, false, false, false] rfl rfl (by kernel_rfl) (fun _ _ _ h => h) (Or.inl ⟨by rfl, ?_⟩) ?_ ?_
  rotate_left
  · intro w'
    go_simp
    with_reducible rfl
  rotate_left
  · simp only [Act.put, List.setIfInBounds_toArray, List.set_cons_zero, List.set_cons_succ, i64_w, i32_w]
    rfl
  refine take_ (i := 3) (N := some 27) (v := ?_) (a' := ?_) #[true, true, false, true, false, false, false, false, false, false, false, false] rfl rfl (by kernel_rfl) (fun _ _ _ h => h) (Or.inl ⟨by rfl, ?_⟩) hHeld ?_ ?_
  rotate_left
  · rintro w' ⟨bD_, bS_, bZ_, bH_, bO_, bX_, rD_, lD_, rS_, lS_, rH_, lH_, lO_, rX_, lX_⟩
    go_simp
    with_reducible rfl
  rotate_left
  · simp only [Act.put, List.setIfInBounds_toArray, List.set_cons_zero, List.set_cons_succ, i64_w, i32_w]
    rfl
  refine pure_ (i := 4) (N := some 28) (v := ?_) (a' := ?_) #[true, true, false, true, true, false, false, false, false, false, false, false] rfl rfl (by kernel_rfl) (fun _ _ _ h => h) (Or.inl ⟨by rfl, ?_⟩) ?_ ?_
  rotate_left
  · intro w'
    go_simp
    with_reducible rfl
  rotate_left
  · simp only [Act.put, List.setIfInBounds_toArray, List.set_cons_zero, List.set_cons_succ, i64_w, i32_w]
    rfl
  refine pure_ (i := 5) (N := some 29) (v := ?_) (a' := ?_) #[true, true, false, true, true, true, false, false, false, false, false, false] rfl rfl (by kernel_rfl) (fun _ _ _ h => h) (Or.inl ⟨by rfl, ?_⟩) ?_ ?_
  rotate_left
  · intro w'
    go_simp
    with_reducible rfl
  rotate_left
  · simp only [Act.put, List.setIfInBounds_toArray, List.set_cons_zero, List.set_cons_succ, i64_w, i32_w]
    rfl
  refine pure_ (i := 6) (N := some 30) (v := ?_) (a' := ?_) #[true, true, false, true, true, true, true, false, false, false, false, false] rfl rfl (by kernel_rfl) (fun _ _ _ h => h) (Or.inl ⟨by rfl, ?_⟩) ?_ ?_
  rotate_left
  · intro w'
    go_simp
    with_reducible rfl
  rotate_left
  · simp only [Act.put, List.setIfInBounds_toArray, List.set_cons_zero, List.set_cons_succ, i64_w, i32_w]
    rfl
  refine take_ (i := 7) (N := some 31) (v := ?_) (a' := ?_) #[true, true, false, true, true, true, true, true, false, false, false, false] rfl rfl (by kernel_rfl) (fun _ _ _ h => h) (Or.inl ⟨by rfl, ?_⟩) hHeld ?_ ?_
  rotate_left
  · rintro w' ⟨bD_, bS_, bZ_, bH_, bO_, bX_, rD_, lD_, rS_, lS_, rH_, lH_, lO_, rX_, lX_⟩
    go_simp
    with_reducible rfl
  rotate_left
  · simp only [Act.put, List.setIfInBounds_toArray, List.set_cons_zero, List.set_cons_succ, i64_w, i32_w]
    rfl
  refine pure_ (i := 8) (N := some 32) (v := ?_) (a' := ?_) #[true, true, false, true, true, true, true, true, true, false, false, false] rfl rfl (by kernel_rfl) (fun _ _ _ h => h) (Or.inl ⟨by rfl, ?_⟩) ?_ ?_
  rotate_left
  · intro w'
    go_simp
    with_reducible rfl
  rotate_left
  · simp only [Act.put, List.setIfInBounds_toArray, List.set_cons_zero, List.set_cons_succ, i64_w, i32_w]
    rfl
  refine pure_ (i := 9) (N := some 33) (v := ?_) (a' := ?_) #[true, true, false, true, true, true, true, true, true, true, false, false] rfl rfl (by kernel_rfl) (fun _ _ _ h => h) (Or.inl ⟨by rfl, ?_⟩) ?_ ?_
  rotate_left
  · intro w'
    go_simp
    with_reducible rfl
  rotate_left
  · simp only [Act.put, List.setIfInBounds_toArray, List.set_cons_zero, List.set_cons_succ, i64_w, i32_w]
    rfl
  refine pure_ (i := 2) (N := some 26) (v := ?_) (a' := ?_) #[true, true, true, true, true, true, true, true, true, true, false, false] rfl rfl (by kernel_rfl) (fun _ _ _ h => h) (Or.inl ⟨by rfl, ?_⟩) ?_ ?_
  rotate_left
  · intro w'
    go_simp
    with_reducible rfl
  rotate_left
  · simp only [Act.put, List.setIfInBounds_toArray, List.set_cons_zero, List.set_cons_succ, i64_w, i32_w]
    rfl
  refine pure_ (i := 10) (N := some 34) (v := ?_) (a' := ?_) #[true, true, true, true, true, true, true, true, true, true, true, false] rfl rfl (by kernel_rfl) (fun _ _ _ h => h) (Or.inl ⟨by rfl, ?_⟩) ?_ ?_
  rotate_left
  · intro w'
    go_simp
    with_reducible rfl
  rotate_left
  · simp only [Act.put, List.setIfInBounds_toArray, List.set_cons_zero, List.set_cons_succ, i64_w, i32_w]
    rfl
  refine one_ (i := 11) (N := some 35) #[true, true, true, true, true, true, true, true, true, true, true, true] rfl rfl (by kernel_rfl) (by decide) (fun K hK => ?_)
  refine step_copy rfl (.tmp 26) (.tmp 34) 31 31 rfl (.slice (some ⟨g, b, none⟩) (n - b) (cO - b)) (.slice (some (aX.add a)) (hi - a) (cX - a)) rfl rfl hr2 ?_
  refine hK.out _ _ FS.out.now (fun _ => ?_)
  clear hK K hr2
  refine done_ (by kernel_rfl) ?_
  first | go_end0 | (refine bodyPost_ret (results_none rfl _ _ _) rfl ?_)
  exact ⟨rfl, B2'.out, FS.out, ⟨G2.out.os.trans HB0.out.os, G2.out.tape.trans HB0.out.tape, G2.out.output.trans HB0.out.output, Nat.le_trans HB0.out.size G2.out.size, fun k h1 h2 => (G2.out.block k (Nat.lt_of_lt_of_le h1 HB0.out.size) h2).trans (HB0.out.block k h1)⟩⟩
end
end Go.Proofs.Ytjbjofmcmjojlab.Wk
end
section
namespace Go.Proofs.Ytjbjofmcmjojlab.Wk
open Go.RowKit Go.Proofs.YtjbjofmcmjojlabW.PrintWords Go.Proofs.YtjbjofmcmjojlabW.PrintLast Go.Proofs.YtjbjofmcmjojlabW.PrintMore
attribute [local go_sem] max2_int min2_int max_two min_two max_three min_three max_four min_four
set_option linter.unusedVariables false
set_option linter.unusedSimpArgs false
section
open Go.Proofs.YtjbjofmcmjojlabQ
def grid_cutStep (k : Nat) (D S : List Int) (z : Int) (H X : List Int) (n : Nat) (O : List Int) (q : List Int × Int) : Option (List Int) :=
  (grid_moved.f k q.1 S).bind fun mv => (grid_place.f k D mv).bind fun p1 => (grid_place.f k H q.1).bind fun p2 =>
  if 0 ≤ p1 * z ∧ 0 ≤ p2 * z ∧ 1 ≤ q.2 * z ∧ p1 * z + q.2 * z ≤ (X.length : Int) ∧ p2 * z + q.2 * z ≤ (n : Int) ∧ p1 * z + p2 * z + q.2 * z + (n : Int) ≤ 1000000 then some (laid O (p2 * z).toNat ((X.drop (p1 * z).toNat).take (q.2 * z).toNat)) else none
def grid_cutFold (k : Nat) (D S : List Int) (z : Int) (H X : List Int) (n : Nat) (O : List Int) (l : List (List Int × Int)) : Option (List Int) := l.foldlM (grid_cutStep k D S z H X n) O
def grid_Cut.f (k : Nat) (X : List Int) (z : Int) (D H c L : List Int) : Option (List Int × Int) :=
  (grid_fit.f D H).bind fun e1 => if e1 = 0 then ((grid_sized.f k z [D, H]).bind fun e2 => if e2 = 0 then ((space_Elements.f D).bind fun n => (space_Elements.f H).bind fun m =>
    (grid_right.f c D.length).bind fun b => if (X.length : Int) = wrap64 (n.1 * z) ∧ (L.length : Int) = z ∧ b = true then
      ((bytes_Repeat.f L m.1).bind fun O => (grid_Clip.f k D H c).bind fun p => if p.2.1.length ≤ 4 ∧ ∀ x ∈ p.2.1, 0 ≤ x ∧ x ≤ 1048576 then (grid_cutFold k D p.1 z H X O.length O (rowsOf p.2.1)).bind fun r => some (r, 0) else none)
    else some ([], 2)) else some ([], e2)) else some ([], e1)
theorem cutFold_length {k : Nat} {D S : List Int} {z : Int} {H X : List Int} {n : Nat} : ∀ (l : List (List Int × Int)) (O r : List Int), O.length = n → grid_cutFold k D S z H X n O l = some r → r.length = n
  | [], O, r, h, h1 => by cases h1; exact h
  | q :: l, O, r, h, h1 => by
    unfold grid_cutFold at h1
    rw [List.foldlM_cons] at h1
    obtain ⟨O', h2, h3⟩ := Option.bind_eq_some_iff.mp h1
    refine cutFold_length l O' r ?_ h3
    unfold grid_cutStep at h2
    obtain ⟨mv, _, h2⟩ := Option.bind_eq_some_iff.mp h2
    obtain ⟨p1, _, h2⟩ := Option.bind_eq_some_iff.mp h2
    obtain ⟨p2, _, h2⟩ := Option.bind_eq_some_iff.mp h2
    split at h2
    · cases h2
      rw [laid_length _ _ _ (by simp only [List.length_take, List.length_drop]; omega)]
      exact h
    · cases h2
set_option maxHeartbeats 4000000 in
set_option maxRecDepth 10000 in
theorem cut_each (k : Nat) (BD BS BZ BH BO BX : Nat) (AD : Option Addr) (cD : Nat) (D : List Int) (AS : Option Addr) (cS : Nat) (S : List Int) (z : Int) (AH : Option Addr) (cH : Nat) (H : List Int) (g n cO : Nat) (hcO : n ≤ cO) (AX : Option Addr) (cX : Nat) (X : List Int) (AP : Option Addr) (P O r : List Int) (W0 : World)
    (hM : ∀ aX, AX = some aX → Foot (grid_Cut1Mem BD AD cD D BS AS cS S BZ z BH AH cH H BO g n cO BX aX cX X) W0 (fun k => k < W0.heap.size ∧ k ≠ g)) (hX : X.length = 0 ∨ ∃ aX, AX = some aX)
    (hP : Foot (fun W => Kd.C (Kd.int .i64) W AP P.length P) W0 (fun k => k < W0.heap.size ∧ k ≠ g)) (hg : g < W0.heap.size) (hO : O.length = n) (hr : grid_cutFold k D S z H X n O (rowsOf P) = some r) :
    EachAt 41 #[.pointer (some ⟨BD, 0, none⟩), .pointer (some ⟨BS, 0, none⟩), .pointer (some ⟨BZ, 0, none⟩), .pointer (some ⟨BH, 0, none⟩), .pointer (some ⟨BO, 0, none⟩), .pointer (some ⟨BX, 0, none⟩)] W0.heap.size AP P (rowsOf P)
      (fun pre W => ∃ O', grid_cutFold k D S z H X n O pre = some O' ∧ Buf 5 W g n O' ∧ W0.grownBy W (some g)) where
  call := fun args w => enters_ Try.func41 (by kernel_rfl) rfl args w
  keep := by
    rintro pre W W' ⟨O', h1, h2, h3⟩ hs hb
    exact ⟨O', h1, h2.step (hb.block g hg), ⟨hb.os.trans h3.os, hb.tape.trans h3.tape, hb.output.trans h3.output, Nat.le_trans h3.size hb.size, fun k a b => (hb.block k a).trans (h3.block k a b)⟩⟩
  size := by
    rintro pre W ⟨O', h1, h2, h3⟩
    exact hP W (fun k hk hl => h3.block k hl (by intro e; injection e with e; exact hk.2 e))
  step := by
    rintro pre at_ m W A c hpre ⟨O', h1, h2, h3⟩ hC hc hs
    obtain ⟨post, hpost⟩ := hpre
    have hO' := cutFold_length _ _ _ hO h1
    unfold grid_cutFold at hr
    rw [← hpost, List.foldlM_append, List.foldlM_append] at hr
    obtain ⟨O2, h4, _⟩ := Option.bind_eq_some_iff.mp hr
    have h5 := h4
    obtain ⟨O3, h6, h7⟩ := Option.bind_eq_some_iff.mp h4
    have h1' : pre.foldlM (grid_cutStep k D S z H X n) O = some O' := h1
    rw [h1'] at h6
    cases h6
    rw [List.foldlM_cons] at h7
    obtain ⟨O3, h8, h9⟩ := Option.bind_eq_some_iff.mp h7
    cases h9
    have h8' := h8
    unfold grid_cutStep at h8
    obtain ⟨mv, m1, h8⟩ := Option.bind_eq_some_iff.mp h8
    obtain ⟨p1, m2, h8⟩ := Option.bind_eq_some_iff.mp h8
    obtain ⟨p2, m3, h8⟩ := Option.bind_eq_some_iff.mp h8
    split at h8
    case isFalse => cases h8
    case isTrue hq =>
    cases h8
    obtain ⟨q1, q2, q3, q4, q5, q6⟩ := hq
    obtain ⟨a, ha⟩ := Int.eq_ofNat_of_zero_le q1
    obtain ⟨b, hb⟩ := Int.eq_ofNat_of_zero_le q2
    obtain ⟨d, hd⟩ := Int.eq_ofNat_of_zero_le (a := m * z) (by simp only at q3; omega)
    simp only at q3 q4 q5 q6
    rw [ha, hd] at q4
    rw [hb, hd] at q5
    rw [ha, hb, hd] at q6
    rw [hd] at q3
    obtain ⟨aX, rfl⟩ : ∃ aX, AX = some aX := by
      rcases hX with hX | hX
      · omega
      · exact hX
    have hM' := (hM aX rfl).step (W1 := W) (fun k hk hl => h3.block k hl (by intro e; injection e with e; exact hk.2 e))
    refine (grid_Cut1.calls k k k BD AD cD D BS AS cS S BZ z BH AH cH H BO g n cO BX aX cX X A c at_ m mv p1 p2 a b d W0.heap.size O' (fun k => k < W0.heap.size ∧ k ≠ g) W hM' (fun k hk => hk.2) hg hs h2 hO' hC hc m1 m2 m3 ha hb hd (by omega) (by omega) (by omega) (by omega)).mono ?_
    rintro e W' ⟨rfl, b1, b2, b3⟩
    refine ⟨rfl, ⟨_, (by unfold grid_cutFold; rw [List.foldlM_append]; exact h5), ?_, ⟨b3.os.trans h3.os, b3.tape.trans h3.tape, b3.output.trans h3.output, Nat.le_trans h3.size b3.size, fun k x y => (b3.block k (Nat.lt_of_lt_of_le x h3.size) y).trans (h3.block k x y)⟩⟩, ⟨b3.size, fun k x y => b3.block k y (by intro e; injection e with e; omega)⟩⟩
    rw [hb, ha, hd]
    exact b1
set_option maxHeartbeats 4000000 in
set_option maxRecDepth 10000 in
theorem grid_Cut.calls (k : Nat) (A0 : Option Addr) (c0 : Nat) (X : List Int) (z : Int) (A2 : Option Addr) (c2 : Nat) (D : List Int) (A3 : Option Addr) (c3 : Nat) (H : List Int) (A4 : Option Addr) (c4 : Nat) (co : List Int) (A5 : Option Addr) (c5 : Nat) (L r : List Int) (e : Int) (w : World)
    (hr0 : Kd.C (Kd.int .u8) w A0 X.length X) (hc0 : X.length ≤ c0) (hr2 : Kd.C (Kd.int .i64) w A2 D.length D) (hc2 : D.length ≤ c2) (hr3 : Kd.C (Kd.int .i64) w A3 H.length H) (hc3 : H.length ≤ c3)
    (hr4 : Kd.C (Kd.int .i64) w A4 co.length co) (hc4 : co.length ≤ c4) (hr5 : Kd.C (Kd.int .u8) w A5 L.length L) (hc5 : L.length ≤ c5) (h : grid_Cut.f k X z D H co L = some (r, e)) :
    Calls Try.prog 17 #[.slice A0 X.length c0, .int .i64 z, .slice A2 D.length c2, .slice A3 H.length c3, .slice A4 co.length c4, .slice A5 L.length c5] w fun E w' => ∃ v, E = .returned (.tuple #[v, .int .i64 e]) ∧ OwnB 5 w' w.heap.size v r ∧ Below w.heap.size w w' := by
  unfold grid_Cut.f at h
  replace h := Option.bind_eq_some_iff.mp h
  obtain ⟨e1, hf1, h⟩ := h
  obtain ⟨hE, hB4⟩ := env4_boxes (z := z) 31 3 22 22 hr0 hc0 hr2 hc2 hr3 hc3 hr5 hc5
  have HE := Aside0.mk hE
  have HB4 := Aside0.mk hB4
  have HR4 := Aside0.mk (Kd.C_below hr4 hB4)
  have HC4 := Aside0.mk hc4
  have HF1 := Aside0.mk hf1
  have HH := Aside0.mk h
  have HU := Aside0.mk (Try.underlying22)
  clear hr0 hc0 hr2 hc2 hr3 hc3 hr5 hc5 hr4 hc4 hf1 h hE hB4
  go_enter Try.func17, Try.ntmps17
  go_upto_region 1 with (fail)
  generalize ((((w.alloc (.cells #[.slice A0 X.length c0] 31)).alloc (.cells #[.int .i64 z] 3)).alloc (.cells #[.slice A2 D.length c2] 22)).alloc (.cells #[.slice A3 H.length c3] 22)) = w4 at HE HB4 HR4 ⊢
  obtain ⟨b0, b1, b2, b3, -, -, -, -, -, -, -, -⟩ := HE.out
  go_upto_region 2 with (go_at_call 33; refine (grid_fit.calls A2 c2 D A3 c3 H e1 _ HE.out.r2 HE.out.l2 HE.out.r3 HE.out.l3 HF1.out).mono ?_; rintro e_ w' ⟨rfl, ⟨n1, rfl⟩⟩)
  have HE5 := Aside0.mk (HE.out.below (pw_below_drewN (Below.refl _ _) n1))
  have HB5 := Aside0.mk (pw_below_drewN HB4.out n1)
  have HR5 := Aside0.mk (Kd.C_drewN HR4.out n1)
  clear HE HB4 HR4 HF1 b0 b1 b2 b3
  generalize w4.drewN n1 = w5 at HE5 HB5 HR5 ⊢
  have h := HH.out
  clear HH
  by_cases h1 : e1 = 0
  case neg =>
    rw [if_neg h1] at h
    cases h
    have d1 : (e == 0) = false := by simpa using h1
    go_wp2
    go_ret2
    exact ⟨_, rfl, .inl ⟨rfl, _, _, rfl⟩, HB5.out⟩
  rw [if_pos h1] at h
  subst h1
  replace h := Option.bind_eq_some_iff.mp h
  obtain ⟨e2, hf2, h⟩ := h
  have HF2 := Aside0.mk hf2
  have HH := Aside0.mk h
  clear hf2 h
  obtain ⟨b0, b1, b2, b3, -, -, -, -, -, -, -, -⟩ := HE5.out
  go_upto_region 5 with (go_at_call 37; refine (grid_sized.calls k z (some ⟨w5.heap.size, 0, none⟩) 2 [D, H] e2 _ (two_rows (World.alloc_heap_new _ _) (Kd.C_alloc HE5.out.r2 _) HE5.out.l2 (Kd.C_alloc HE5.out.r3 _) HE5.out.l3) (Nat.le_refl _) HF2.out).mono ?_; rintro e_ w' ⟨rfl, ⟨n2, rfl⟩⟩)
  have hb6 := pw_below_drewN (below_alloc (Below.refl w5.heap.size w5) (.cells #[.slice A2 D.length c2, .slice A3 H.length c3] 22)) n2
  have HE6 := Aside0.mk (HE5.out.below hb6)
  have HB6 := Aside0.mk (pw_below_drewN (HB5.out.alloc HB5.out.size (.cells #[.slice A2 D.length c2, .slice A3 H.length c3] 22)) n2)
  have HR6 := Aside0.mk (Kd.C_below HR5.out hb6)
  clear HE5 HB5 HR5 HF2 b0 b1 b2 b3 hb6
  generalize (w5.alloc (.cells #[.slice A2 D.length c2, .slice A3 H.length c3] 22)).drewN n2 = w6 at HE6 HB6 HR6 ⊢
  have h := HH.out
  clear HH
  by_cases h1 : e2 = 0
  case neg =>
    rw [if_neg h1] at h
    cases h
    have d1 : (e == 0) = false := by simpa using h1
    go_wp2
    go_ret2
    exact ⟨_, rfl, .inl ⟨rfl, _, _, rfl⟩, HB6.out⟩
  rw [if_pos h1] at h
  subst h1
  replace h := Option.bind_eq_some_iff.mp h
  obtain ⟨⟨n, en⟩, hN, h⟩ := h
  replace h := Option.bind_eq_some_iff.mp h
  obtain ⟨⟨m, em⟩, hM, h⟩ := h
  replace h := Option.bind_eq_some_iff.mp h
  obtain ⟨b, hb, h⟩ := h
  have HN := Aside0.mk hN
  have HM := Aside0.mk hM
  have HRT := Aside0.mk hb
  have HH := Aside0.mk h
  clear hN hM hb h
  obtain ⟨b0, b1, b2, b3, -, -, -, -, -, -, -, -⟩ := HE6.out
  go_upto_region 8 with (go_at_call 38; refine (space_Elements.calls A2 c2 D n en _ HE6.out.r2 HE6.out.l2 HN.out).mono ?_; rintro e_ w' ⟨rfl, ⟨n3, rfl⟩⟩)
  have HE7 := Aside0.mk (HE6.out.below (pw_below_drewN (Below.refl _ _) n3))
  have HB7 := Aside0.mk (pw_below_drewN HB6.out n3)
  have HR7 := Aside0.mk (Kd.C_drewN HR6.out n3)
  clear HE6 HB6 HR6 HN b0 b1 b2 b3
  generalize w6.drewN n3 = w7 at HE7 HB7 HR7 ⊢
  obtain ⟨b0, b1, b2, b3, -, -, -, -, -, -, -, -⟩ := HE7.out
  go_upto_region 9 with (go_at_call 38; refine (space_Elements.calls A3 c3 H m em _ HE7.out.r3 HE7.out.l3 HM.out).mono ?_; rintro e_ w' ⟨rfl, ⟨n4, rfl⟩⟩)
  have HE8 := Aside0.mk (HE7.out.below (pw_below_drewN (Below.refl _ _) n4))
  have HB8 := Aside0.mk (pw_below_drewN HB7.out n4)
  have HR8 := Aside0.mk (Kd.C_drewN HR7.out n4)
  clear HE7 HB7 HR7 HM b0 b1 b2 b3
  generalize w7.drewN n4 = w8 at HE8 HB8 HR8 ⊢
  obtain ⟨b0, b1, b2, b3, -, -, -, -, -, -, -, -⟩ := HE8.out
  have h := HH.out
  clear HH
  try simp only at h
  by_cases x1 : (X.length : Int) = wrap64 (n * z)
  case neg =>
    rw [if_neg (fun q => x1 q.1)] at h
    cases h
    have d1 : ((X.length : Int) == wrap64 (n * z)) = false := by simpa using x1
    go_wp2
    go_ret2
    exact ⟨_, rfl, .inl ⟨rfl, _, _, rfl⟩, HB8.out⟩
  have d1 : ((X.length : Int) == wrap64 (n * z)) = true := by simpa using x1
  have q1 : ((X.length : Int) = wrap64 (n * z)) = True := eq_true x1
  have m1 : ((X.length : Int) != wrap64 (n * z)) = false := by simpa using x1
  by_cases x2 : (L.length : Int) = z
  case neg =>
    rw [if_neg (fun q => x2 q.2.1)] at h
    cases h
    have d2 : ((L.length : Int) == z) = false := by simpa using x2
    have q2 : ((L.length : Int) = z) = False := eq_false x2
    clear x1
    go_wp2
    go_ret2
    exact ⟨_, rfl, .inl ⟨rfl, _, _, rfl⟩, HB8.out⟩
  have d2 : ((L.length : Int) == z) = true := by simpa using x2
  have q2 : ((L.length : Int) = z) = True := eq_true x2
  have m2 : ((L.length : Int) != z) = false := by simpa using x2
  cases b with
  | false =>
    rw [if_neg (fun q => by cases q.2.2)] at h
    cases h
    clear x1 x2
    go_wp2_with (go_at_call 34; refine (grid_right.calls A4 c4 co (D.length : Int) false _ HR8.out HC4.out HRT.out).mono ?_; rintro e_ w' ⟨rfl, ⟨n5, rfl⟩⟩)
    go_ret2
    exact ⟨_, rfl, .inl ⟨rfl, _, _, rfl⟩, pw_below_drewN HB8.out n5⟩
  | true =>
  rw [if_pos ⟨x1, x2, rfl⟩] at h
  replace h := Option.bind_eq_some_iff.mp h
  obtain ⟨O, hO, h⟩ := h
  replace h := Option.bind_eq_some_iff.mp h
  obtain ⟨⟨S, P, ce⟩, hC, h⟩ := h
  try simp only at h
  split at h
  case isFalse => cases h
  case isTrue hq =>
  replace h := Option.bind_eq_some_iff.mp h
  obtain ⟨r', hr, h⟩ := h
  cases h
  have HO := Aside0.mk hO
  have HC := Aside0.mk hC
  have HQ := Aside0.mk hq
  have HFR := Aside0.mk hr
  clear hO hC hq hr x1 x2
  go_upto_region 11 with (go_at_call 34; refine (grid_right.calls A4 c4 co (D.length : Int) true _ HR8.out HC4.out HRT.out).mono ?_; rintro e_ w' ⟨rfl, ⟨n5, rfl⟩⟩)
  have HE9 := Aside0.mk (HE8.out.below (pw_below_drewN (Below.refl _ _) n5))
  have HB9 := Aside0.mk (pw_below_drewN HB8.out n5)
  have HR9 := Aside0.mk (Kd.C_drewN HR8.out n5)
  clear HE8 HB8 HR8 HRT b0 b1 b2 b3 d1 d2 q1 q2 m1 m2
  generalize w8.drewN n5 = w9 at HE9 HB9 HR9 ⊢
  go_upto_region 12 with (go_at_call 39; refine (grid_full.calls m A5 c5 L O _ HE9.out.r5 HE9.out.l5 HO.out).mono ?_; rintro e_ w10 ⟨g, rfl, hg, hbuf, hb⟩; have HG := Aside0.mk hg; have HBF := Aside0.mk hbuf; have HBL := Aside0.mk hb; clear hg hbuf hb)
  have hb11 : Below w9.heap.size w9 (w10.alloc (.cells #[.slice (some ⟨g, 0, none⟩) O.length O.length] 31)) := below_alloc HBL.out _
  have HE11 := Aside0.mk (HE9.out.below hb11)
  have HB11 := Aside0.mk (below_step HB9.out hb11)
  have HR11 := Aside0.mk (Kd.C_below HR9.out hb11)
  have HX11 := Aside0.mk (show (w10.alloc (.cells #[.slice (some ⟨g, 0, none⟩) O.length O.length] 31)).heap[w10.heap.size]? = some (.cells #[.slice (some ⟨g, 0, none⟩) O.length O.length] 31 (0, 0)) from World.alloc_heap_new _ _)
  have HBF11 := Aside0.mk (HBF.out.below (below_alloc (Below.refl _ _) (.cells #[.slice (some ⟨g, 0, none⟩) O.length O.length] 31)))
  have HG10 := Aside0.mk HBF.out.lt
  have HB911 := Aside0.mk hb11
  have HZ11 := Aside0.mk (show (w10.alloc (.cells #[.slice (some ⟨g, 0, none⟩) O.length O.length] 31)).heap.size = w10.heap.size + 1 from World.size_alloc _ _)
  clear hb11 HBF HBL HB9 HR9 HO
  generalize hw11 : w10.alloc (.cells #[.slice (some ⟨g, 0, none⟩) O.length O.length] 31) = w11 at HE11 HB11 HR11 HX11 HBF11 HB911 HZ11 ⊢
  clear hw11
  obtain ⟨b0, b1, b2, b3, -, -, -, -, -, -, -, -⟩ := HE11.out
  go_upto_region 13 with (go_at_call 11; refine (grid_Clip.calls k A2 c2 D A3 c3 H A4 c4 co S P ce _ HE11.out.r2 HE11.out.l2 HE11.out.r3 HE11.out.l3 HR11.out HC4.out HC.out).mono ?_; rintro e_ w12 ⟨v0, v1, rfl, hv0, hv1, hb⟩; obtain ⟨AS, cS, rfl⟩ := Kd.R_slice hv0; obtain ⟨AP, cP, rfl⟩ := Kd.R_slice hv1; have HV0 := Aside0.mk hv0; have HV1 := Aside0.mk hv1; have HBL := Aside0.mk hb; clear hv0 hv1 hb)
  clear b0 b1 b2 b3
  have hbA : Below w12.heap.size w12 (w12.alloc (.cells #[.slice AS S.length cS] 22)) := below_alloc (Below.refl _ _) _
  have hb1213 : Below w11.heap.size w11 (w12.alloc (.cells #[.slice AS S.length cS] 22)) := below_step HBL.out hbA
  have hsz := HBL.out.size
  have hlt : g < w10.heap.size := HG10.out
  have hz11 := HZ11.out
  have hz13 : (w12.alloc (.cells #[.slice AS S.length cS] 22)).heap.size = w12.heap.size + 1 := World.size_alloc _ _
  have HM13 := Aside0.mk (show ∀ aX, A0 = some aX → Foot (grid_Cut1Mem (w.heap.size + 1 + 1) A2 c2 D w12.heap.size AS cS S (w.heap.size + 1) z (w.heap.size + 1 + 1 + 1) A3 c3 H w10.heap.size g O.length O.length w.heap.size aX c0 X) (w12.alloc (.cells #[.slice AS S.length cS] 22)) (fun k => k < (w12.alloc (.cells #[.slice AS S.length cS] 22)).heap.size ∧ k ≠ g) from by
    rintro aX rfl W hW
    have hE := (((HE9.out.foot).step (W1 := w12.alloc (.cells #[.slice AS S.length cS] 22)) (fun k _ hk => (below_step HB911.out hb1213).block k hk)).mono (ok' := fun k => k < (w12.alloc (.cells #[.slice AS S.length cS] 22)).heap.size ∧ k ≠ g) (fun k hk => ⟨by have := HB911.out.size; omega, by have := HG.out; omega⟩)) W hW
    have hS := ((Kd.R_F (Kd.R_mono (ok' := fun k => w11.heap.size ≤ k ∧ k < w12.heap.size) (Kd.R_bound HV0.out) (fun k hk => ⟨hk.2.1, hk.2.2.1⟩))).step (W1 := w12.alloc (.cells #[.slice AS S.length cS] 22)) (fun k _ hk => hbA.block k hk)) W (fun k hk hl => hW k ⟨hl, by omega⟩ hl)
    exact ⟨hE.b2, (blk_cell ((hW w12.heap.size ⟨by omega, by omega⟩ (by omega)).trans (World.alloc_heap_new _ _)) 0).trans rfl, hE.b1, hE.b3,
      (blk_cell ((hW w10.heap.size ⟨by omega, by omega⟩ (by omega)).trans ((hb1213.block _ (by omega)).trans HX11.out)) 0).trans rfl, hE.b0, hE.r2, hE.l2, hS, (Kd.R_reads' HV0.out).2.1, hE.r3, hE.l3, Nat.le_refl _, hE.r0, hE.l0⟩)
  have HP13 := Aside0.mk (show Foot (fun W => Kd.C (Kd.int .i64) W AP P.length P) (w12.alloc (.cells #[.slice AS S.length cS] 22)) (fun k => k < (w12.alloc (.cells #[.slice AS S.length cS] 22)).heap.size ∧ k ≠ g) from by
    intro W hW
    exact ((Kd.R_F (Kd.R_mono (ok' := fun k => w11.heap.size ≤ k ∧ k < w12.heap.size) (Kd.R_bound HV1.out) (fun k hk => ⟨hk.2.1, hk.2.2.1⟩))).step (W1 := w12.alloc (.cells #[.slice AS S.length cS] 22)) (fun k _ hk => hbA.block k hk)) W (fun k hk hl => hW k ⟨hl, by omega⟩ hl))
  have HX13 := Aside0.mk ((hb1213.block _ (by omega)).trans HX11.out)
  have HBF13 := Aside0.mk (HBF11.out.step (hb1213.block g (by omega)))
  have HB13 := Aside0.mk (below_step HB11.out hb1213)
  have HG13 := Aside0.mk (show g < (w12.alloc (.cells #[.slice AS S.length cS] 22)).heap.size by omega)
  have HGB := Aside0.mk (show w.heap.size ≤ g from Nat.le_trans (Nat.le_of_lt (World.block_lt_of_cell? _ _ HE9.out.b0)) HG.out)
  have HCP := Aside0.mk (Kd.R_reads' HV1.out).2.1
  have HAX := Aside0.mk (u8_addr HE9.out.r0)
  have HNE := Aside0.mk (show ¬ some w10.heap.size = some g from fun e => by injection e with e; omega)
  clear hbA hb1213 hsz hlt hz11 hz13 HBL HV0 HV1 HE9 HE11 HB11 HR11 HX11 HBF11 HB911 HZ11 HG10
  generalize (w12.alloc (.cells #[.slice AS S.length cS] 22)) = w13 at HM13 HP13 HX13 HBF13 HB13 HG13 ⊢
  go_upto_region 14 with (go_at_call 40; refine (grid_rows 41 _ _ AP cP P _ (cut_each k (w.heap.size + 1 + 1) w12.heap.size (w.heap.size + 1) (w.heap.size + 1 + 1 + 1) w10.heap.size w.heap.size A2 c2 D AS cS S z A3 c3 H g O.length O.length (Nat.le_refl _) A0 c0 X AP P O r w13 HM13.out HAX.out HP13.out HG13.out rfl HFR.out) ⟨O, rfl, HBF13.out, ⟨rfl, rfl, rfl, Nat.le_refl _, fun _ _ _ => rfl⟩⟩ HQ.out.1 HQ.out.2 HCP.out).mono ?_; rintro e_ w14 ⟨rfl, ⟨O', h1, h2, h3⟩⟩; have H1 := Aside0.mk h1; have H2 := Aside0.mk h2; have H3 := Aside0.mk h3; clear h1 h2 h3)
  have e1 := HFR.out.symm.trans H1.out
  cases e1
  have hl := cutFold_length _ _ _ rfl HFR.out
  have bo : w14.cell? ⟨w10.heap.size, 0, none⟩ = some (.slice (some ⟨g, 0, none⟩) O.length O.length) := (blk_cell ((H3.out.block _ (World.block_lt_of_cell? w13 ⟨w10.heap.size, 0, none⟩ ((blk_cell HX13.out 0).trans rfl)) HNE.out).trans HX13.out) 0).trans rfl
  go_wp2
  go_ret2
  exact ⟨_, rfl, .inr ⟨g, _, by rw [hl]; rfl, by rw [hl]; exact Nat.le_refl _, HGB.out, by rw [hl]; exact H2.out⟩, HB13.out.grown H3.out HB13.out.size (fun k e => by cases e; exact HGB.out)⟩
end
end Go.Proofs.Ytjbjofmcmjojlab.Wk
end
section
namespace Go.Proofs.Ytjbjofmcmjojlab.Wk
open Go.RowKit Go.Proofs.YtjbjofmcmjojlabW.PrintWords Go.Proofs.YtjbjofmcmjojlabW.PrintLast Go.Proofs.YtjbjofmcmjojlabW.PrintMore
attribute [local go_sem] max2_int min2_int max_two min_two max_three min_three max_four min_four
set_option linter.unusedVariables false
set_option linter.unusedSimpArgs false
def grid_Chunks.l0 : Nat → List Int → List Int → Int → Int → Int → Option (Int × Int)
  | 0, _, _, _, _, _ => none
  | k + 1, x0, x1, x7, x16, x17 => if x17 < x16 then (if 0 ≤ x17 then (if x17 < (x0.length : Int) then (if x17 < (x1.length : Int) then (if (rd x1 x17) = 0 then (none) else (grid_Chunks.l0 k x0 x1 (wrap64 (x7 * (wrap64 (Int.tdiv (wrap64 ((wrap64 ((rd x0 x17) + (rd x1 x17))) - 1)) (rd x1 x17))))) x16 (wrap64 (x17 + 1)))) else (none)) else (none)) else (none)) else (some (x7, 0))
def grid_Chunks.f (k : Nat) (l0 : List Int) (l1 : List Int) : Option (Int × Int) := (grid_fit.f l0 l1).bind fun t135 => (if t135 = 0 then (grid_Chunks.l0 k l0 l1 1 (l0.length : Int) 0) else (some (0, t135)))
set_option maxHeartbeats 8000000 in
set_option maxRecDepth 100000 in
theorem grid_Chunks.calls (k : Nat) (A0 : Option Addr) (c0 : Nat) (l0 : List Int) (A1 : Option Addr) (c1 : Nat) (l1 : List Int) (r1 : Int) (r2 : Int) (w : World) (hr0 : Kd.C (Kd.int .i64) w A0 l0.length l0) (hc0 : l0.length ≤ c0) (hr1 : Kd.C (Kd.int .i64) w A1 l1.length l1) (hc1 : l1.length ≤ c1) (h : grid_Chunks.f k l0 l1 = some (r1, r2)) :
    Calls Try.prog 25 #[.slice A0 l0.length c0, .slice A1 l1.length c1] w fun e w' => e = .returned (.tuple #[.int .i64 r1, .int .i64 r2]) ∧ Drawn0 w w' := by
  have HR0 := Aside0.mk hr0
  have HC0 := Aside0.mk hc0
  clear hr0 hc0
  have HR1 := Aside0.mk hr1
  have HC1 := Aside0.mk hc1
  clear hr1 hc1
  have H : ((grid_fit.f l0 l1).bind fun t135 => (if t135 = 0 then (grid_Chunks.l0 k l0 l1 1 (l0.length : Int) 0) else (some (0, t135)))) = some (r1, r2) := h
  clear h
  replace H := Option.bind_eq_some_iff.mp H
  obtain ⟨t135, A30, H⟩ := H
  replace H : (if t135 = 0 then (grid_Chunks.l0 k l0 l1 1 (l0.length : Int) 0) else (some (0, t135))) = some (r1, r2) := H
  have A3 := Aside0.mk A30
  clear A30
  by_cases c4 : t135 = 0
  · rw [if_pos c4] at H
    have c4b0 : (t135 == 0) = true := beq_iff_eq.mpr c4
    have c4b1 : (t135 != 0) = false := bne_eq_false_iff_eq.mpr c4
    clear c4
    have H' := Aside0.mk H
    clear H
    go_enter Try.func25, Try.ntmps25
    go_wp2_with (first | (go_at_call 33; (with_reducible refine (grid_fit.calls _ _ l0 _ _ l1 t135 _ ?side1 ?side2 ?side3 ?side4 A3.out).mono ?_); (case side1 => repeat (first | exact HR0.out | (with_reducible refine Kd.C_alloc ?_ _) | (with_reducible refine Kd.C_drewN ?_ _) | (with_reducible refine Kd.C_drew ?_))); (case side2 => exact HC0.out); (case side3 => repeat (first | exact HR1.out | (with_reducible refine Kd.C_alloc ?_ _) | (with_reducible refine Kd.C_drewN ?_ _) | (with_reducible refine Kd.C_drew ?_))); (case side4 => exact HC1.out); rintro e w' ⟨rfl, ⟨nd, rfl⟩⟩; (try first | exact ⟨rfl, _, World.drewN_drewN _ _ _⟩ | exact ⟨rfl, _, Eq.trans (World.drewN_drewN _ _ _) (congrArg (World.drewN _) (Nat.add_assoc _ _ _))⟩)))
    repeat (go_quiet (first | (go_at_call 33; (with_reducible refine (grid_fit.calls _ _ l0 _ _ l1 t135 _ ?side1 ?side2 ?side3 ?side4 A3.out).mono ?_); (case side1 => repeat (first | exact HR0.out | (with_reducible refine Kd.C_alloc ?_ _) | (with_reducible refine Kd.C_drewN ?_ _) | (with_reducible refine Kd.C_drew ?_))); (case side2 => exact HC0.out); (case side3 => repeat (first | exact HR1.out | (with_reducible refine Kd.C_alloc ?_ _) | (with_reducible refine Kd.C_drewN ?_ _) | (with_reducible refine Kd.C_drew ?_))); (case side4 => exact HC1.out); rintro e w' ⟨rfl, ⟨nd, rfl⟩⟩; (try first | exact ⟨rfl, _, World.drewN_drewN _ _ _⟩ | exact ⟨rfl, _, Eq.trans (World.drewN_drewN _ _ _) (congrArg (World.drewN _) (Nat.add_assoc _ _ _))⟩))); try go_wp2_with (first | (go_at_call 33; (with_reducible refine (grid_fit.calls _ _ l0 _ _ l1 t135 _ ?side1 ?side2 ?side3 ?side4 A3.out).mono ?_); (case side1 => repeat (first | exact HR0.out | (with_reducible refine Kd.C_alloc ?_ _) | (with_reducible refine Kd.C_drewN ?_ _) | (with_reducible refine Kd.C_drew ?_))); (case side2 => exact HC0.out); (case side3 => repeat (first | exact HR1.out | (with_reducible refine Kd.C_alloc ?_ _) | (with_reducible refine Kd.C_drewN ?_ _) | (with_reducible refine Kd.C_drew ?_))); (case side4 => exact HC1.out); rintro e w' ⟨rfl, ⟨nd, rfl⟩⟩; (try first | exact ⟨rfl, _, World.drewN_drewN _ _ _⟩ | exact ⟨rfl, _, Eq.trans (World.drewN_drewN _ _ _) (congrArg (World.drewN _) (Nat.add_assoc _ _ _))⟩))))
    go_loopg [7, 17] k (fun kq v7 v17 w' => ∃ (x7_1 : Int) (x17_1 : Int), v7 = .int .i64 x7_1 ∧ v17 = .int .i64 x17_1 ∧ Aside0 (grid_Chunks.l0 kq l0 l1 x7_1 (l0.length : Int) x17_1 = some (r1, r2)) ∧ Aside0 (kq ≤ k) ∧ Drawn0 w w')
    case atStart => exact ⟨(1), (0), (by first | rfl | (simp; done) | (simp [*]; done)), (by first | rfl | (simp; done) | (simp [*]; done)), H', ⟨Nat.le_refl _⟩, by repeat (first | exact Drawn0.refl _ | apply Drawn0.step)⟩
    case round =>
      clear H'
      try clear c1
      try clear c2
      try clear p2
      try clear c4
      try clear c4b0
      try clear c4b1
      obtain ⟨x7_1, x17_1, rfl, rfl, HA, HK1, ⟨m1, rfl⟩⟩ := hrel
      cases gk with
      | zero => exact absurd HA.out (by simp [grid_Chunks.l0])
      | succ k1 =>
        have H := HA.out
        clear HA
        simp only [grid_Chunks.l0] at H
        by_cases c5 : x17_1 < (l0.length : Int)
        · rw [if_pos c5] at H
          have c5b0 : decide (x17_1 < (l0.length : Int)) = true := decide_eq_true c5
          clear c5
          by_cases c6 : 0 ≤ x17_1
          · rw [if_pos c6] at H
            have c6b0 : decide (0 ≤ x17_1) = true := decide_eq_true c6
            clear c6
            by_cases c7 : x17_1 < (l0.length : Int)
            · rw [if_pos c7] at H
              have c7b0 : decide (x17_1 < (l0.length : Int)) = true := decide_eq_true c7
              clear c7
              by_cases c8 : x17_1 < (l1.length : Int)
              · rw [if_pos c8] at H
                have c8b0 : decide (x17_1 < (l1.length : Int)) = true := decide_eq_true c8
                clear c8
                by_cases c9 : (rd l1 x17_1) = 0
                · rw [if_pos c9] at H
                  exact absurd H (by simp)
                · rw [if_neg c9] at H
                  have c9b0 : ((rd l1 x17_1) == 0) = false := beq_eq_false_iff_ne.mpr c9
                  have c9b1 : ((rd l1 x17_1) != 0) = true := bne_iff_ne.mpr c9
                  have H' := Aside0.mk H
                  clear H
                  have p136 : 0 ≤ (x17_1 : Int) := of_decide_eq_true (by first | (with_reducible assumption) | assumption)
                  have q136 : x17_1 < (l0.length : Int) := of_decide_eq_true (by first | (with_reducible assumption) | assumption)
                  obtain ⟨ad136, e136, hx136_0⟩ := Kd.at_int HR0.out x17_1 p136 q136
                  cases e136
                  replace p136 := eq_true p136
                  replace q136 := eq_true q136
                  have p137 : 0 ≤ (x17_1 : Int) := of_decide_eq_true (by first | (with_reducible assumption) | assumption)
                  have q137 : x17_1 < (l1.length : Int) := of_decide_eq_true (by first | (with_reducible assumption) | assumption)
                  obtain ⟨ad137, e137, hx137_0⟩ := Kd.at_int HR1.out x17_1 p137 q137
                  cases e137
                  replace p137 := eq_true p137
                  replace q137 := eq_true q137
                  have p138 : 0 ≤ (x17_1 : Int) := of_decide_eq_true (by first | (with_reducible assumption) | assumption)
                  have q138 : x17_1 < (l1.length : Int) := of_decide_eq_true (by first | (with_reducible assumption) | assumption)
                  obtain ⟨ad138, e138, hx138_0⟩ := Kd.at_int HR1.out x17_1 p138 q138
                  obtain rfl : ad137 = ad138 := (by injection e138)
                  replace p138 := eq_true p138
                  replace q138 := eq_true q138
                  go_wp2
                  repeat (go_quiet (fail); try go_wp2)
                  go_roundg k1
                  case measure => have := HK1.out; omega
                  case rel => exact ⟨(wrap64 (x7_1 * (wrap64 (Int.tdiv (wrap64 ((wrap64 ((rd l0 x17_1) + (rd l1 x17_1))) - 1)) (rd l1 x17_1))))), (wrap64 (x17_1 + 1)), (by first | rfl | (simp; done) | (simp [*]; done)), (by first | rfl | (simp; done) | (simp [*]; done)), H', ⟨by have := HK1.out; omega⟩, by repeat (first | exact Drawn0.refl _ | apply Drawn0.step)⟩
              · rw [if_neg c8] at H
                exact absurd H (by simp)
            · rw [if_neg c7] at H
              exact absurd H (by simp)
          · rw [if_neg c6] at H
            exact absurd H (by simp)
        · rw [if_neg c5] at H
          have c5b0 : decide (x17_1 < (l0.length : Int)) = false := decide_eq_false c5
          clear c5
          simp only [Option.some.injEq, Prod.mk.injEq] at H
          obtain ⟨rfl, rfl⟩ := H
          go_wp2
          repeat (go_quiet (fail); try go_wp2)
          go_ret2
          exact ⟨by first | rfl | (simp; done) | (simp [*]; done), by repeat (first | exact Drawn0.refl _ | apply Drawn0.step)⟩
  · rw [if_neg c4] at H
    have c4b0 : (t135 == 0) = false := beq_eq_false_iff_ne.mpr c4
    have c4b1 : (t135 != 0) = true := bne_iff_ne.mpr c4
    simp only [Option.some.injEq, Prod.mk.injEq] at H
    obtain ⟨rfl, rfl⟩ := H
    go_enter Try.func25, Try.ntmps25
    go_wp2_with (first | (go_at_call 33; (with_reducible refine (grid_fit.calls _ _ l0 _ _ l1 t135 _ ?side1 ?side2 ?side3 ?side4 A3.out).mono ?_); (case side1 => repeat (first | exact HR0.out | (with_reducible refine Kd.C_alloc ?_ _) | (with_reducible refine Kd.C_drewN ?_ _) | (with_reducible refine Kd.C_drew ?_))); (case side2 => exact HC0.out); (case side3 => repeat (first | exact HR1.out | (with_reducible refine Kd.C_alloc ?_ _) | (with_reducible refine Kd.C_drewN ?_ _) | (with_reducible refine Kd.C_drew ?_))); (case side4 => exact HC1.out); rintro e w' ⟨rfl, ⟨nd, rfl⟩⟩; (try first | exact ⟨rfl, _, World.drewN_drewN _ _ _⟩ | exact ⟨rfl, _, Eq.trans (World.drewN_drewN _ _ _) (congrArg (World.drewN _) (Nat.add_assoc _ _ _))⟩)))
    repeat (go_quiet (first | (go_at_call 33; (with_reducible refine (grid_fit.calls _ _ l0 _ _ l1 t135 _ ?side1 ?side2 ?side3 ?side4 A3.out).mono ?_); (case side1 => repeat (first | exact HR0.out | (with_reducible refine Kd.C_alloc ?_ _) | (with_reducible refine Kd.C_drewN ?_ _) | (with_reducible refine Kd.C_drew ?_))); (case side2 => exact HC0.out); (case side3 => repeat (first | exact HR1.out | (with_reducible refine Kd.C_alloc ?_ _) | (with_reducible refine Kd.C_drewN ?_ _) | (with_reducible refine Kd.C_drew ?_))); (case side4 => exact HC1.out); rintro e w' ⟨rfl, ⟨nd, rfl⟩⟩; (try first | exact ⟨rfl, _, World.drewN_drewN _ _ _⟩ | exact ⟨rfl, _, Eq.trans (World.drewN_drewN _ _ _) (congrArg (World.drewN _) (Nat.add_assoc _ _ _))⟩))); try go_wp2_with (first | (go_at_call 33; (with_reducible refine (grid_fit.calls _ _ l0 _ _ l1 t135 _ ?side1 ?side2 ?side3 ?side4 A3.out).mono ?_); (case side1 => repeat (first | exact HR0.out | (with_reducible refine Kd.C_alloc ?_ _) | (with_reducible refine Kd.C_drewN ?_ _) | (with_reducible refine Kd.C_drew ?_))); (case side2 => exact HC0.out); (case side3 => repeat (first | exact HR1.out | (with_reducible refine Kd.C_alloc ?_ _) | (with_reducible refine Kd.C_drewN ?_ _) | (with_reducible refine Kd.C_drew ?_))); (case side4 => exact HC1.out); rintro e w' ⟨rfl, ⟨nd, rfl⟩⟩; (try first | exact ⟨rfl, _, World.drewN_drewN _ _ _⟩ | exact ⟨rfl, _, Eq.trans (World.drewN_drewN _ _ _) (congrArg (World.drewN _) (Nat.add_assoc _ _ _))⟩))))
    go_ret2
    exact ⟨by first | rfl | (simp; done) | (simp [*]; done), by repeat (first | exact Drawn0.refl _ | apply Drawn0.step)⟩
end Go.Proofs.Ytjbjofmcmjojlab.Wk
end
section
namespace Go.Proofs.Ytjbjofmcmjojlab.Wk
open Go.RowKit Go.Proofs.YtjbjofmcmjojlabW.PrintWords Go.Proofs.YtjbjofmcmjojlabW.PrintLast Go.Proofs.YtjbjofmcmjojlabW.PrintMore
attribute [local go_sem] max2_int min2_int max_two min_two max_three min_three max_four min_four
set_option linter.unusedVariables false
set_option linter.unusedSimpArgs false
section
open Go.Proofs.YtjbjofmcmjojlabQ
def slabvaultlaw13_lives.f : Option (Bool) := some true
theorem C_lit (k : IntKind) {W : World} {b e : Nat} {fr : Nat × Nat} (xs : List Int) (h : W.heap[b]? = some (.cells (xs.map (Value.int k)).toArray e fr)) (hm : xs.length ≤ 9223372036854775807) : Kd.C (Kd.int k) W (some ⟨b, 0, none⟩) xs.length xs := by
  refine Kd.C_of_reads (d := (0 : Int)) (h1 := fun _ => rfl) ⟨rfl, hm, fun _ => ⟨_, rfl, fun j hj => ?_⟩⟩
  have he : (⟨b, 0, none⟩ : Addr).add j = ⟨b, j, none⟩ := by
    by_cases h0 : j = 0
    · subst h0; simp [Addr.add]
    · simp [Addr.add, h0]
  rw [he, show W.cell? ⟨b, j, none⟩ = (xs.map (Value.int k)).toArray[j]? by simp [World.cell?, h]]
  simp [List.getElem?_map, List.getElem?_eq_getElem hj, List.getD_eq_getElem?_getD]
theorem lits5 (w : World) (a b c d e : Obj) : let W := ((((w.alloc a).alloc b).alloc c).alloc d).alloc e; W.heap[w.heap.size]? = some a ∧ W.heap[w.heap.size + 1]? = some b ∧ W.heap[w.heap.size + 1 + 1]? = some c ∧ W.heap[w.heap.size + 1 + 1 + 1]? = some d ∧ W.heap[w.heap.size + 1 + 1 + 1 + 1]? = some e ∧ Below w.heap.size w W := by
  intro W
  have h1 := World.alloc_heap_new w a
  have h2 := World.alloc_heap_new (w.alloc a) b
  have h3 := World.alloc_heap_new ((w.alloc a).alloc b) c
  have h4 := World.alloc_heap_new (((w.alloc a).alloc b).alloc c) d
  have h5 := World.alloc_heap_new ((((w.alloc a).alloc b).alloc c).alloc d) e
  simp only [World.size_alloc] at h2 h3 h4 h5
  exact ⟨blk_alloc (blk_alloc (blk_alloc (blk_alloc h1 _) _) _) _, blk_alloc (blk_alloc (blk_alloc h2 _) _) _, blk_alloc (blk_alloc h3 _) _, blk_alloc h4 _, h5, below_alloc (below_alloc (below_alloc (below_alloc (below_alloc (Below.refl _ _) _) _) _) _) _⟩
theorem lits4 (w : World) (a b c d : Obj) : let W := ((((w.alloc a).alloc b).alloc c).alloc d); W.heap[w.heap.size]? = some a ∧ W.heap[w.heap.size + 1]? = some b ∧ W.heap[w.heap.size + 1 + 1]? = some c ∧ W.heap[w.heap.size + 1 + 1 + 1]? = some d ∧ Below w.heap.size w W := by
  intro W
  have h1 := World.alloc_heap_new w a
  have h2 := World.alloc_heap_new (w.alloc a) b
  have h3 := World.alloc_heap_new ((w.alloc a).alloc b) c
  have h4 := World.alloc_heap_new (((w.alloc a).alloc b).alloc c) d
  simp only [World.size_alloc] at h2 h3 h4
  exact ⟨blk_alloc (blk_alloc (blk_alloc h1 _) _) _, blk_alloc (blk_alloc h2 _) _, blk_alloc h3 _, h4, below_alloc (below_alloc (below_alloc (below_alloc (Below.refl _ _) _) _) _) _⟩
theorem ownB_form {e : Nat} {W : World} {base : Nat} {v : Value} {r : List Int} (h : OwnB e W base v r) (h0 : 0 < r.length) : ∃ g c, v = .slice (some ⟨g, 0, none⟩) r.length c ∧ base ≤ g ∧ r.length ≤ c ∧ Buf e W g r.length r := by
  rcases h with ⟨rfl, _⟩ | ⟨g, c, h1, h2, h3, h4⟩
  · simp at h0
  · exact ⟨g, c, h1, h3, h2, h4⟩
theorem lits2 (w : World) (a b : Obj) : let W := ((w.alloc a).alloc b); W.heap[w.heap.size]? = some a ∧ W.heap[w.heap.size + 1]? = some b ∧ Below w.heap.size w W := by
  intro W
  have h1 := World.alloc_heap_new w a
  have h2 := World.alloc_heap_new (w.alloc a) b
  simp only [World.size_alloc] at h2
  exact ⟨blk_alloc h1 _, h2, below_alloc (below_alloc (Below.refl _ _) _) _⟩
theorem lives_chunks : grid_Chunks.f 10 [5] [2] = some (3, 0) := by decide +kernel
theorem lives_cut : grid_Cut.f 10 [97, 98, 99, 100, 101] 1 [5] [2] [2] [45] = some ([101, 45], 0) := by decide +kernel
theorem lives_resize : grid_Resize.f 10 [97, 98, 99, 100] 1 [2, 2] [3, 1] [45] = some ([97, 99, 45], 0) := by decide +kernel
set_option maxHeartbeats 4000000 in
set_option maxRecDepth 10000 in
theorem slabvaultlaw13_lives.calls (r : Bool) (w : World) (h : slabvaultlaw13_lives.f = some r) : Calls Try.prog 14 #[] w fun e w' => e = .returned (.bool r) ∧ Below w.heap.size w w' := by
  cases h
  go_enter Try.func14, Try.ntmps14
  obtain ⟨a1, a2, hb⟩ := lits2 w (.cells #[.int .i64 5] 3) (.cells #[.int .i64 2] 3)
  have A1 := Aside0.mk (C_lit .i64 [5] a1 (by decide))
  have A2 := Aside0.mk (C_lit .i64 [2] a2 (by decide))
  have HB := Aside0.mk hb
  clear a1 a2 hb
  go_upto_region 2 with (go_at_call 25; refine (grid_Chunks.calls 10 (some ⟨w.heap.size, 0, none⟩) 1 [5] (some ⟨w.heap.size + 1, 0, none⟩) 1 [2] 3 0 _ A1.out (Nat.le_refl _) A2.out (Nat.le_refl _) lives_chunks).mono ?_; rintro e_ w1 ⟨rfl, ⟨n1, rfl⟩⟩)
  have HB1 := Aside0.mk (pw_below_drewN HB.out n1)
  clear HB A1 A2
  generalize (((w.alloc (.cells #[.int .i64 5] 3)).alloc (.cells #[.int .i64 2] 3)).drewN n1) = w1 at HB1 ⊢
  have hc1 : (convert 31 31 (.slice (some ⟨w1.heap.size, 0, none⟩) 5 5)).run Try.prog (w1.alloc (.cells #[.int .u8 97, .int .u8 98, .int .u8 99, .int .u8 100, .int .u8 101] 5)) = .ok (.slice (some ⟨w1.heap.size, 0, none⟩) 5 5) (w1.alloc (.cells #[.int .u8 97, .int .u8 98, .int .u8 99, .int .u8 100, .int .u8 101] 5 (5, 6))) := Lib.run_convert_bytes_const w1 31 5 _ 5 5 Try.underlying31 Try.underlying5
  have hc2 : (convert 31 31 (.slice (some ⟨w1.heap.size + 1 + 1 + 1 + 1, 0, none⟩) 1 1)).run Try.prog (((((w1.alloc (.cells #[.int .u8 97, .int .u8 98, .int .u8 99, .int .u8 100, .int .u8 101] 5 (5, 6))).alloc (.cells #[.int .i64 5] 3)).alloc (.cells #[.int .i64 2] 3)).alloc (.cells #[.int .i64 2] 3)).alloc (.cells #[.int .u8 45] 5)) = .ok (.slice (some ⟨w1.heap.size + 1 + 1 + 1 + 1, 0, none⟩) 1 1) (((((w1.alloc (.cells #[.int .u8 97, .int .u8 98, .int .u8 99, .int .u8 100, .int .u8 101] 5 (5, 6))).alloc (.cells #[.int .i64 5] 3)).alloc (.cells #[.int .i64 2] 3)).alloc (.cells #[.int .i64 2] 3)).alloc (.cells #[.int .u8 45] 5 (1, 2))) := by
    have := Lib.run_convert_bytes_const (P := Try.prog) ((((w1.alloc (.cells #[.int .u8 97, .int .u8 98, .int .u8 99, .int .u8 100, .int .u8 101] 5 (5, 6))).alloc (.cells #[.int .i64 5] 3)).alloc (.cells #[.int .i64 2] 3)).alloc (.cells #[.int .i64 2] 3)) 31 5 #[.int .u8 45] 1 1 Try.underlying31 Try.underlying5
    simp only [World.size_alloc] at this
    exact this
  obtain ⟨a1, a2, a3, a4, a5, hb⟩ := lits5 w1 (.cells #[.int .u8 97, .int .u8 98, .int .u8 99, .int .u8 100, .int .u8 101] 5 (5, 6)) (.cells #[.int .i64 5] 3) (.cells #[.int .i64 2] 3) (.cells #[.int .i64 2] 3) (.cells #[.int .u8 45] 5 (1, 2))
  have A1 := Aside0.mk (C_lit .u8 [97, 98, 99, 100, 101] a1 (by decide))
  have A2 := Aside0.mk (C_lit .i64 [5] a2 (by decide))
  have A3 := Aside0.mk (C_lit .i64 [2] a3 (by decide))
  have A4 := Aside0.mk (C_lit .i64 [2] a4 (by decide))
  have A5 := Aside0.mk (C_lit .u8 [45] a5 (by decide))
  have HB2 := Aside0.mk (below_step HB1.out hb)
  clear a1 a2 a3 a4 a5 hb HB1
  go_upto_region 3 with (go_at_call 17; refine (grid_Cut.calls 10 (some ⟨w1.heap.size, 0, none⟩) 5 [97, 98, 99, 100, 101] 1 (some ⟨w1.heap.size + 1, 0, none⟩) 1 [5] (some ⟨w1.heap.size + 1 + 1, 0, none⟩) 1 [2] (some ⟨w1.heap.size + 1 + 1 + 1, 0, none⟩) 1 [2] (some ⟨w1.heap.size + 1 + 1 + 1 + 1, 0, none⟩) 1 [45] [101, 45] 0 _ A1.out (Nat.le_refl _) A2.out (Nat.le_refl _) A3.out (Nat.le_refl _) A4.out (Nat.le_refl _) A5.out (Nat.le_refl _) lives_cut).mono ?_; rintro e_ w2 ⟨v2, rfl, ho, hb⟩; have HO := Aside0.mk ho; have HBB := Aside0.mk hb; have HB3 := Aside0.mk (below_step HB2.out hb); clear ho hb)
  obtain ⟨g2, c2, rfl, -, -, hb2⟩ := ownB_form HO.out (by decide)
  have BF2 := Aside0.mk hb2
  clear A1 A2 A3 A4 A5 HB2 HBB hc1 hc2 HO hb2
  have hc1 : (convert 31 31 (.slice (some ⟨w2.heap.size, 0, none⟩) 4 4)).run Try.prog (w2.alloc (.cells #[.int .u8 97, .int .u8 98, .int .u8 99, .int .u8 100] 5)) = .ok (.slice (some ⟨w2.heap.size, 0, none⟩) 4 4) (w2.alloc (.cells #[.int .u8 97, .int .u8 98, .int .u8 99, .int .u8 100] 5 (4, 5))) := Lib.run_convert_bytes_const w2 31 5 _ 4 4 Try.underlying31 Try.underlying5
  have hc2 : (convert 31 31 (.slice (some ⟨w2.heap.size + 1 + 1 + 1, 0, none⟩) 1 1)).run Try.prog ((((w2.alloc (.cells #[.int .u8 97, .int .u8 98, .int .u8 99, .int .u8 100] 5 (4, 5))).alloc (.cells #[.int .i64 2, .int .i64 2] 3)).alloc (.cells #[.int .i64 3, .int .i64 1] 3)).alloc (.cells #[.int .u8 45] 5)) = .ok (.slice (some ⟨w2.heap.size + 1 + 1 + 1, 0, none⟩) 1 1) ((((w2.alloc (.cells #[.int .u8 97, .int .u8 98, .int .u8 99, .int .u8 100] 5 (4, 5))).alloc (.cells #[.int .i64 2, .int .i64 2] 3)).alloc (.cells #[.int .i64 3, .int .i64 1] 3)).alloc (.cells #[.int .u8 45] 5 (1, 2))) := by
    have := Lib.run_convert_bytes_const (P := Try.prog) (((w2.alloc (.cells #[.int .u8 97, .int .u8 98, .int .u8 99, .int .u8 100] 5 (4, 5))).alloc (.cells #[.int .i64 2, .int .i64 2] 3)).alloc (.cells #[.int .i64 3, .int .i64 1] 3)) 31 5 #[.int .u8 45] 1 1 Try.underlying31 Try.underlying5
    simp only [World.size_alloc] at this
    exact this
  obtain ⟨a1, a2, a3, a4, hb⟩ := lits4 w2 (.cells #[.int .u8 97, .int .u8 98, .int .u8 99, .int .u8 100] 5 (4, 5)) (.cells #[.int .i64 2, .int .i64 2] 3) (.cells #[.int .i64 3, .int .i64 1] 3) (.cells #[.int .u8 45] 5 (1, 2))
  have A1 := Aside0.mk (C_lit .u8 [97, 98, 99, 100] a1 (by decide))
  have A2 := Aside0.mk (C_lit .i64 [2, 2] a2 (by decide))
  have A3 := Aside0.mk (C_lit .i64 [3, 1] a3 (by decide))
  have A4 := Aside0.mk (C_lit .u8 [45] a4 (by decide))
  have HB4 := Aside0.mk hb
  clear a1 a2 a3 a4 hb
  go_upto_region 4 with (go_at_call 21; refine (grid_Resize.calls 10 (some ⟨w2.heap.size, 0, none⟩) 4 [97, 98, 99, 100] 1 (some ⟨w2.heap.size + 1, 0, none⟩) 2 [2, 2] (some ⟨w2.heap.size + 1 + 1, 0, none⟩) 2 [3, 1] (some ⟨w2.heap.size + 1 + 1 + 1, 0, none⟩) 1 [45] [97, 99, 45] 0 _ A1.out (Nat.le_refl _) A2.out (Nat.le_refl _) A3.out (Nat.le_refl _) A4.out (Nat.le_refl _) lives_resize).mono ?_; rintro e_ w3 ⟨v3, rfl, ho, hb⟩; have HO := Aside0.mk ho; have HB5 := Aside0.mk (below_step HB4.out hb); clear ho hb)
  obtain ⟨g3, c3, rfl, -, -, hb3⟩ := ownB_form HO.out (by decide)
  have hs1 := Kd.C_string (P := Try.prog) (A := some ⟨g2, 0, none⟩) (c := c2) Try.underlying31 Try.underlying5 Try.underlying9 ((BF2.out.below HB5.out).C rfl)
  have hs2 := Kd.C_string (P := Try.prog) (A := some ⟨g3, 0, none⟩) (c := c3) Try.underlying31 Try.underlying5 Try.underlying9 (hb3.C rfl)
  rw [show strOfNums [101, 45] = ⟨#[101, 45]⟩ by decide +kernel] at hs1
  rw [show strOfNums [97, 99, 45] = ⟨#[97, 99, 45]⟩ by decide +kernel] at hs2
  have hs1 := (show (convert 31 9 (.slice (some ⟨g2, 0, none⟩) 2 c2)).run Try.prog w3 = .ok (.string ⟨#[101, 45]⟩) w3 from hs1)
  have hs2 := (show (convert 31 9 (.slice (some ⟨g3, 0, none⟩) 3 c3)).run Try.prog w3 = .ok (.string ⟨#[97, 99, 45]⟩) w3 from hs2)
  have HBE := Aside0.mk (below_step HB3.out HB5.out)
  clear A1 A2 A3 A4 HB4 HB5 BF2 hb3 HO HB3 hc1 hc2
  go_wp2
  go_ret
  exact ⟨rfl, HBE.out⟩
end
end Go.Proofs.Ytjbjofmcmjojlab.Wk
end
section
namespace Go.Proofs.Ytjbjofmcmjojlab.Wk
open Go.RowKit Go.Proofs.YtjbjofmcmjojlabW.PrintWords Go.Proofs.YtjbjofmcmjojlabW.PrintLast Go.Proofs.YtjbjofmcmjojlabW.PrintMore
attribute [local go_sem] max2_int min2_int max_two min_two max_three min_three max_four min_four
set_option linter.unusedVariables false
set_option linter.unusedSimpArgs false
mutual
def slabvaultref12_Elements.l0 : Nat → List Int → Int → Int → Option (Int × Int)
  | 0, _, _, _ => none
  | k + 1, x0, x4, x5 => if x5 < (x0.length : Int) then (if 0 ≤ x5 then (if (rd x0 x5) < 0 then (some (0, 2)) else (if (rd x0 x5) > 1048576 then (some (0, 2)) else (slabvaultref12_Elements.l0 k x0 x4 (wrap64 (x5 + 1))))) else (none)) else (slabvaultref12_Elements.l1 k x0 x4 0)
def slabvaultref12_Elements.l1 : Nat → List Int → Int → Int → Option (Int × Int)
  | 0, _, _, _ => none
  | k + 1, x0, x4, x6 => if x6 < (x0.length : Int) then (if 0 ≤ x6 then (if (rd x0 x6) = 0 then (some (0, 0)) else (slabvaultref12_Elements.l1 k x0 x4 (wrap64 (x6 + 1)))) else (none)) else (slabvaultref12_Elements.l2 k x0 x4 0)
def slabvaultref12_Elements.l2 : Nat → List Int → Int → Int → Option (Int × Int)
  | 0, _, _, _ => none
  | k + 1, x0, x4, x7 => if x7 < (x0.length : Int) then (if 0 ≤ x7 then (if (wrap64 (x4 * (rd x0 x7))) > 1048576 then (some (0, 3)) else (slabvaultref12_Elements.l2 k x0 (wrap64 (x4 * (rd x0 x7))) (wrap64 (x7 + 1)))) else (none)) else (some (x4, 0))
end
def slabvaultref12_Elements.f (k : Nat) (l0 : List Int) : Option (Int × Int) := if (l0.length : Int) > 4 then (some (0, 2)) else (slabvaultref12_Elements.l0 k l0 1 0)
set_option maxHeartbeats 8000000 in
set_option maxRecDepth 100000 in
theorem slabvaultref12_Elements.calls (k : Nat) (A0 : Option Addr) (c0 : Nat) (l0 : List Int) (r1 : Int) (r2 : Int) (w : World) (hr0 : Kd.C (Kd.int .i64) w A0 l0.length l0) (hc0 : l0.length ≤ c0) (h : slabvaultref12_Elements.f k l0 = some (r1, r2)) :
    Calls Try.prog 24 #[.slice A0 l0.length c0] w fun e w' => e = .returned (.tuple #[.int .i64 r1, .int .i64 r2]) ∧ Drawn0 w w' := by
  have HR0 := Aside0.mk hr0
  have HC0 := Aside0.mk hc0
  clear hr0 hc0
  have H : (if (l0.length : Int) > 4 then (some (0, 2)) else (slabvaultref12_Elements.l0 k l0 1 0)) = some (r1, r2) := h
  clear h
  by_cases c2 : (l0.length : Int) > 4
  · rw [if_pos c2] at H
    have c2b0 : decide (4 < (l0.length : Int)) = true := decide_eq_true c2
    have c2b1 : decide (4 < l0.length) = true := decide_eq_true (by omega)
    clear c2
    simp only [Option.some.injEq, Prod.mk.injEq] at H
    obtain ⟨rfl, rfl⟩ := H
    go_enter Try.func24, Try.ntmps24
    go_wp2
    go_ret2
    exact ⟨by first | rfl | (simp; done) | (simp [*]; done), by repeat (first | exact Drawn0.refl _ | apply Drawn0.step)⟩
  · rw [if_neg c2] at H
    have c2b0 : decide (4 < (l0.length : Int)) = false := decide_eq_false c2
    have c2b1 : decide (4 < l0.length) = false := decide_eq_false (by omega)
    clear c2
    have H' := Aside0.mk H
    clear H
    go_enter Try.func24, Try.ntmps24
    go_wp2
    go_loopg [5] k (fun kq v5 w' => ∃ (x5_1 : Int), v5 = .int .i64 x5_1 ∧ Aside0 (slabvaultref12_Elements.l0 kq l0 1 x5_1 = some (r1, r2)) ∧ Aside0 (kq ≤ k) ∧ Drawn0 w w')
    case atStart => exact ⟨(0), (by first | rfl | (simp; done) | (simp [*]; done)), H', ⟨Nat.le_refl _⟩, by repeat (first | exact Drawn0.refl _ | apply Drawn0.step)⟩
    case round =>
      clear H'
      try clear c2
      try clear c2b0
      try clear c2b1
      try clear p2
      obtain ⟨x5_1, rfl, HA, HK1, ⟨m1, rfl⟩⟩ := hrel
      cases gk with
      | zero => exact absurd HA.out (by simp [slabvaultref12_Elements.l0])
      | succ k1 =>
        have H := HA.out
        clear HA
        simp only [slabvaultref12_Elements.l0] at H
        by_cases c3 : x5_1 < (l0.length : Int)
        · rw [if_pos c3] at H
          have c3b0 : decide (x5_1 < (l0.length : Int)) = true := decide_eq_true c3
          clear c3
          by_cases c4 : 0 ≤ x5_1
          · rw [if_pos c4] at H
            have c4b0 : decide (0 ≤ x5_1) = true := decide_eq_true c4
            clear c4
            by_cases c5 : (rd l0 x5_1) < 0
            · rw [if_pos c5] at H
              have c5b0 : decide ((rd l0 x5_1) < 0) = true := decide_eq_true c5
              clear c5
              simp only [Option.some.injEq, Prod.mk.injEq] at H
              obtain ⟨rfl, rfl⟩ := H
              have p139 : 0 ≤ (x5_1 : Int) := of_decide_eq_true (by first | (with_reducible assumption) | assumption)
              have q139 : x5_1 < (l0.length : Int) := of_decide_eq_true (by first | (with_reducible assumption) | assumption)
              obtain ⟨ad139, e139, hx139_0⟩ := Kd.at_int HR0.out x5_1 p139 q139
              cases e139
              replace p139 := eq_true p139
              replace q139 := eq_true q139
              go_wp2
              go_ret2
              exact ⟨by first | rfl | (simp; done) | (simp [*]; done), by repeat (first | exact Drawn0.refl _ | apply Drawn0.step)⟩
            · rw [if_neg c5] at H
              have c5b0 : decide ((rd l0 x5_1) < 0) = false := decide_eq_false c5
              clear c5
              by_cases c6 : (rd l0 x5_1) > 1048576
              · rw [if_pos c6] at H
                have c6b0 : decide (1048576 < (rd l0 x5_1)) = true := decide_eq_true c6
                clear c6
                simp only [Option.some.injEq, Prod.mk.injEq] at H
                obtain ⟨rfl, rfl⟩ := H
                have p139 : 0 ≤ (x5_1 : Int) := of_decide_eq_true (by first | (with_reducible assumption) | assumption)
                have q139 : x5_1 < (l0.length : Int) := of_decide_eq_true (by first | (with_reducible assumption) | assumption)
                obtain ⟨ad139, e139, hx139_0⟩ := Kd.at_int HR0.out x5_1 p139 q139
                cases e139
                replace p139 := eq_true p139
                replace q139 := eq_true q139
                have p140 : 0 ≤ (x5_1 : Int) := of_decide_eq_true (by first | (with_reducible assumption) | assumption)
                have q140 : x5_1 < (l0.length : Int) := of_decide_eq_true (by first | (with_reducible assumption) | assumption)
                obtain ⟨ad140, e140, hx140_0⟩ := Kd.at_int HR0.out x5_1 p140 q140
                obtain rfl : ad139 = ad140 := (by injection e140)
                replace p140 := eq_true p140
                replace q140 := eq_true q140
                go_wp2
                go_ret2
                exact ⟨by first | rfl | (simp; done) | (simp [*]; done), by repeat (first | exact Drawn0.refl _ | apply Drawn0.step)⟩
              · rw [if_neg c6] at H
                have c6b0 : decide (1048576 < (rd l0 x5_1)) = false := decide_eq_false c6
                clear c6
                have H' := Aside0.mk H
                clear H
                have p139 : 0 ≤ (x5_1 : Int) := of_decide_eq_true (by first | (with_reducible assumption) | assumption)
                have q139 : x5_1 < (l0.length : Int) := of_decide_eq_true (by first | (with_reducible assumption) | assumption)
                obtain ⟨ad139, e139, hx139_0⟩ := Kd.at_int HR0.out x5_1 p139 q139
                cases e139
                replace p139 := eq_true p139
                replace q139 := eq_true q139
                have p140 : 0 ≤ (x5_1 : Int) := of_decide_eq_true (by first | (with_reducible assumption) | assumption)
                have q140 : x5_1 < (l0.length : Int) := of_decide_eq_true (by first | (with_reducible assumption) | assumption)
                obtain ⟨ad140, e140, hx140_0⟩ := Kd.at_int HR0.out x5_1 p140 q140
                obtain rfl : ad139 = ad140 := (by injection e140)
                replace p140 := eq_true p140
                replace q140 := eq_true q140
                go_wp2
                go_roundg k1
                case measure => have := HK1.out; omega
                case rel => exact ⟨(wrap64 (x5_1 + 1)), (by first | rfl | (simp; done) | (simp [*]; done)), H', ⟨by have := HK1.out; omega⟩, by repeat (first | exact Drawn0.refl _ | apply Drawn0.step)⟩
          · rw [if_neg c4] at H
            exact absurd H (by simp)
        · rw [if_neg c3] at H
          have c3b0 : decide (x5_1 < (l0.length : Int)) = false := decide_eq_false c3
          clear c3
          have H' := Aside0.mk H
          clear H
          go_wp2
          go_loopg [6] k1 (fun kq v6 w' => ∃ (x6_2 : Int), v6 = .int .i64 x6_2 ∧ Aside0 (slabvaultref12_Elements.l1 kq l0 1 x6_2 = some (r1, r2)) ∧ Aside0 (kq ≤ k1) ∧ Drawn0 w w')
          case atStart => exact ⟨(0), (by first | rfl | (simp; done) | (simp [*]; done)), H', ⟨Nat.le_refl _⟩, by repeat (first | exact Drawn0.refl _ | apply Drawn0.step)⟩
          case round =>
            clear H'
            try clear p1
            try clear q1
            try clear hx1
            try clear c2
            try clear c2b0
            try clear c2b1
            try clear p2
            try clear c3
            try clear c3b0
            try clear c4
            try clear c4b0
            try clear c5
            try clear c5b0
            try clear c6
            try clear c6b0
            try clear p6
            try clear hx139_0
            try clear hx140_0
            try clear p139
            try clear p140
            try clear p2
            try clear q139
            try clear q140
            obtain ⟨x6_2, rfl, HA, HK2, ⟨m2, rfl⟩⟩ := hrel
            cases gk with
            | zero => exact absurd HA.out (by simp [slabvaultref12_Elements.l1])
            | succ k2 =>
              have H := HA.out
              clear HA
              simp only [slabvaultref12_Elements.l1] at H
              by_cases c7 : x6_2 < (l0.length : Int)
              · rw [if_pos c7] at H
                have c7b0 : decide (x6_2 < (l0.length : Int)) = true := decide_eq_true c7
                clear c7
                by_cases c8 : 0 ≤ x6_2
                · rw [if_pos c8] at H
                  have c8b0 : decide (0 ≤ x6_2) = true := decide_eq_true c8
                  clear c8
                  by_cases c9 : (rd l0 x6_2) = 0
                  · rw [if_pos c9] at H
                    have c9b0 : ((rd l0 x6_2) == 0) = true := beq_iff_eq.mpr c9
                    have c9b1 : ((rd l0 x6_2) != 0) = false := bne_eq_false_iff_eq.mpr c9
                    clear c9
                    simp only [Option.some.injEq, Prod.mk.injEq] at H
                    obtain ⟨rfl, rfl⟩ := H
                    have p141 : 0 ≤ (x6_2 : Int) := of_decide_eq_true (by first | (with_reducible assumption) | assumption)
                    have q141 : x6_2 < (l0.length : Int) := of_decide_eq_true (by first | (with_reducible assumption) | assumption)
                    obtain ⟨ad141, e141, hx141_0⟩ := Kd.at_int HR0.out x6_2 p141 q141
                    cases e141
                    replace p141 := eq_true p141
                    replace q141 := eq_true q141
                    go_wp2
                    go_ret2
                    exact ⟨by first | rfl | (simp; done) | (simp [*]; done), by repeat (first | exact Drawn0.refl _ | apply Drawn0.step)⟩
                  · rw [if_neg c9] at H
                    have c9b0 : ((rd l0 x6_2) == 0) = false := beq_eq_false_iff_ne.mpr c9
                    have c9b1 : ((rd l0 x6_2) != 0) = true := bne_iff_ne.mpr c9
                    have H' := Aside0.mk H
                    clear H
                    have p141 : 0 ≤ (x6_2 : Int) := of_decide_eq_true (by first | (with_reducible assumption) | assumption)
                    have q141 : x6_2 < (l0.length : Int) := of_decide_eq_true (by first | (with_reducible assumption) | assumption)
                    obtain ⟨ad141, e141, hx141_0⟩ := Kd.at_int HR0.out x6_2 p141 q141
                    cases e141
                    replace p141 := eq_true p141
                    replace q141 := eq_true q141
                    go_wp2
                    go_roundg k2
                    case measure => have := HK1.out; have := HK2.out; omega
                    case rel => exact ⟨(wrap64 (x6_2 + 1)), (by first | rfl | (simp; done) | (simp [*]; done)), H', ⟨by have := HK1.out; have := HK2.out; omega⟩, by repeat (first | exact Drawn0.refl _ | apply Drawn0.step)⟩
                · rw [if_neg c8] at H
                  exact absurd H (by simp)
              · rw [if_neg c7] at H
                have c7b0 : decide (x6_2 < (l0.length : Int)) = false := decide_eq_false c7
                clear c7
                have H' := Aside0.mk H
                clear H
                go_wp2
                go_loopg [4, 7] k2 (fun kq v4 v7 w' => ∃ (x4_3 : Int) (x7_3 : Int), v4 = .int .i64 x4_3 ∧ v7 = .int .i64 x7_3 ∧ Aside0 (slabvaultref12_Elements.l2 kq l0 x4_3 x7_3 = some (r1, r2)) ∧ Aside0 (kq ≤ k2) ∧ Drawn0 w w')
                case atStart => exact ⟨(1), (0), (by first | rfl | (simp; done) | (simp [*]; done)), (by first | rfl | (simp; done) | (simp [*]; done)), H', ⟨Nat.le_refl _⟩, by repeat (first | exact Drawn0.refl _ | apply Drawn0.step)⟩
                case round =>
                  clear H'
                  try clear p1
                  try clear q1
                  try clear hx1
                  try clear c2
                  try clear c2b0
                  try clear c2b1
                  try clear p2
                  try clear c3
                  try clear c3b0
                  try clear c4
                  try clear c4b0
                  try clear c5
                  try clear c5b0
                  try clear c6
                  try clear c6b0
                  try clear p6
                  try clear c7
                  try clear c7b0
                  try clear c8
                  try clear c8b0
                  try clear c9
                  try clear c9b0
                  try clear c9b1
                  try clear hx139_0
                  try clear hx140_0
                  try clear hx141_0
                  try clear p1
                  try clear p139
                  try clear p140
                  try clear p141
                  try clear p2
                  try clear p6
                  try clear q1
                  try clear q139
                  try clear q140
                  try clear q141
                  obtain ⟨x4_3, x7_3, rfl, rfl, HA, HK3, ⟨m3, rfl⟩⟩ := hrel
                  cases gk with
                  | zero => exact absurd HA.out (by simp [slabvaultref12_Elements.l2])
                  | succ k3 =>
                    have H := HA.out
                    clear HA
                    simp only [slabvaultref12_Elements.l2] at H
                    by_cases c10 : x7_3 < (l0.length : Int)
                    · rw [if_pos c10] at H
                      have c10b0 : decide (x7_3 < (l0.length : Int)) = true := decide_eq_true c10
                      clear c10
                      by_cases c11 : 0 ≤ x7_3
                      · rw [if_pos c11] at H
                        have c11b0 : decide (0 ≤ x7_3) = true := decide_eq_true c11
                        clear c11
                        by_cases c12 : (wrap64 (x4_3 * (rd l0 x7_3))) > 1048576
                        · rw [if_pos c12] at H
                          have c12b0 : decide (1048576 < (wrap64 (x4_3 * (rd l0 x7_3)))) = true := decide_eq_true c12
                          clear c12
                          simp only [Option.some.injEq, Prod.mk.injEq] at H
                          obtain ⟨rfl, rfl⟩ := H
                          have p142 : 0 ≤ (x7_3 : Int) := of_decide_eq_true (by first | (with_reducible assumption) | assumption)
                          have q142 : x7_3 < (l0.length : Int) := of_decide_eq_true (by first | (with_reducible assumption) | assumption)
                          obtain ⟨ad142, e142, hx142_0⟩ := Kd.at_int HR0.out x7_3 p142 q142
                          cases e142
                          replace p142 := eq_true p142
                          replace q142 := eq_true q142
                          go_wp2
                          go_ret2
                          exact ⟨by first | rfl | (simp; done) | (simp [*]; done), by repeat (first | exact Drawn0.refl _ | apply Drawn0.step)⟩
                        · rw [if_neg c12] at H
                          have c12b0 : decide (1048576 < (wrap64 (x4_3 * (rd l0 x7_3)))) = false := decide_eq_false c12
                          clear c12
                          have H' := Aside0.mk H
                          clear H
                          have p142 : 0 ≤ (x7_3 : Int) := of_decide_eq_true (by first | (with_reducible assumption) | assumption)
                          have q142 : x7_3 < (l0.length : Int) := of_decide_eq_true (by first | (with_reducible assumption) | assumption)
                          obtain ⟨ad142, e142, hx142_0⟩ := Kd.at_int HR0.out x7_3 p142 q142
                          cases e142
                          replace p142 := eq_true p142
                          replace q142 := eq_true q142
                          go_wp2
                          go_roundg k3
                          case measure => have := HK1.out; have := HK2.out; have := HK3.out; omega
                          case rel => exact ⟨(wrap64 (x4_3 * (rd l0 x7_3))), (wrap64 (x7_3 + 1)), (by first | rfl | (simp; done) | (simp [*]; done)), (by first | rfl | (simp; done) | (simp [*]; done)), H', ⟨by have := HK1.out; have := HK2.out; have := HK3.out; omega⟩, by repeat (first | exact Drawn0.refl _ | apply Drawn0.step)⟩
                      · rw [if_neg c11] at H
                        exact absurd H (by simp)
                    · rw [if_neg c10] at H
                      have c10b0 : decide (x7_3 < (l0.length : Int)) = false := decide_eq_false c10
                      clear c10
                      simp only [Option.some.injEq, Prod.mk.injEq] at H
                      obtain ⟨rfl, rfl⟩ := H
                      go_wp2
                      go_ret2
                      exact ⟨by first | rfl | (simp; done) | (simp [*]; done), by repeat (first | exact Drawn0.refl _ | apply Drawn0.step)⟩
end Go.Proofs.Ytjbjofmcmjojlab.Wk
end
section
namespace Go.Proofs.Ytjbjofmcmjojlab.Wk
open Go.RowKit Go.Proofs.YtjbjofmcmjojlabW.PrintWords Go.Proofs.YtjbjofmcmjojlabW.PrintLast Go.Proofs.YtjbjofmcmjojlabW.PrintMore
attribute [local go_sem] max2_int min2_int max_two min_two max_three min_three max_four min_four
set_option linter.unusedVariables false
set_option linter.unusedSimpArgs false
def slabvaultlaw13_wide.f (k : Nat) (l0 : List Int) : Option (Bool) := (slabvaultref12_Elements.f k l0).bind fun bt239 => (some (decide (bt239.1 > 3000)))
set_option maxHeartbeats 8000000 in
set_option maxRecDepth 100000 in
theorem slabvaultlaw13_wide.calls (k : Nat) (A0 : Option Addr) (c0 : Nat) (l0 : List Int) (r : Bool) (w : World) (hr0 : Kd.C (Kd.int .i64) w A0 l0.length l0) (hc0 : l0.length ≤ c0) (h : slabvaultlaw13_wide.f k l0 = some r) :
    Calls Try.prog 23 #[.slice A0 l0.length c0] w fun e w' => e = .returned (.bool r) ∧ Drawn0 w w' := by
  have HR0 := Aside0.mk hr0
  have HC0 := Aside0.mk hc0
  clear hr0 hc0
  have H : ((slabvaultref12_Elements.f k l0).bind fun bt239 => (some (decide (bt239.1 > 3000)))) = some r := h
  clear h
  replace H := Option.bind_eq_some_iff.mp H
  obtain ⟨⟨t239, t240⟩, A20, H⟩ := H
  replace H : (some (decide (t239 > 3000))) = some r := H
  have A2 := Aside0.mk A20
  clear A20
  obtain rfl := Option.some.inj H
  go_enter Try.func23, Try.ntmps23
  go_wp2_with (first | ((with_reducible refine gate_callee (f := 24) rfl ?_); refine goesL_ (some 7) rfl rfl Try.func24 (by kernel_rfl) rfl #[.slice A0 l0.length c0] rfl (by (try simp only [List.map_toArray, List.map_cons, List.map_nil]); first | done | rfl | (simp only [List.length_drop, List.length_take]; rfl)) ?_; (with_reducible refine (slabvaultref12_Elements.calls k _ _ l0 t239 t240 _ ?side1 ?side2 A2.out).mono ?_); (case side1 => repeat (first | exact HR0.out | (with_reducible refine Kd.C_alloc ?_ _) | (with_reducible refine Kd.C_drewN ?_ _) | (with_reducible refine Kd.C_drew ?_))); (case side2 => exact HC0.out); rintro e w' ⟨rfl, ⟨nd, rfl⟩⟩; refine ⟨_, rfl, ?_⟩))
  go_ret
  exact ⟨by first | rfl | (simp; done) | (simp [*]; done), by repeat (first | exact Drawn0.refl _ | apply Drawn0.step)⟩
end Go.Proofs.Ytjbjofmcmjojlab.Wk
end
section
namespace Go.Proofs.Ytjbjofmcmjojlab.Wk
open Go.RowKit Go.Proofs.YtjbjofmcmjojlabW.PrintWords Go.Proofs.YtjbjofmcmjojlabW.PrintLast Go.Proofs.YtjbjofmcmjojlabW.PrintMore
attribute [local go_sem] max2_int min2_int max_two min_two max_three min_three max_four min_four
set_option linter.unusedVariables false
set_option linter.unusedSimpArgs false
def slabvaultlaw13_heavy.f (k : Nat) (l0_0 : List Int) (a0_1 : Int) (l0_2 : List Int) (l0_3 : List Int) (l0_4 : List Int) (l0_5 : List Int) : Option (Bool) := if (l0_0.length : Int) > 10000 then (some true) else (if (l0_5.length : Int) > 10000 then (some true) else ((slabvaultlaw13_wide.f k l0_2).bind fun t242 => (if t242 = true then (some true) else ((slabvaultlaw13_wide.f k l0_3).bind fun t243 => (some t243)))))
set_option maxHeartbeats 8000000 in
set_option maxRecDepth 100000 in
theorem slabvaultlaw13_heavy.calls (k : Nat) (A0_0 : Option Addr) (c0_0 : Nat) (l0_0 : List Int) (a0_1 : Int) (A0_2 : Option Addr) (c0_2 : Nat) (l0_2 : List Int) (A0_3 : Option Addr) (c0_3 : Nat) (l0_3 : List Int) (A0_4 : Option Addr) (c0_4 : Nat) (l0_4 : List Int) (A0_5 : Option Addr) (c0_5 : Nat) (l0_5 : List Int) (r : Bool) (w : World) (hr0_0 : Kd.C (Kd.int .u8) w A0_0 l0_0.length l0_0) (hc0_0 : l0_0.length ≤ c0_0) (hr0_2 : Kd.C (Kd.int .i64) w A0_2 l0_2.length l0_2) (hc0_2 : l0_2.length ≤ c0_2) (hr0_3 : Kd.C (Kd.int .i64) w A0_3 l0_3.length l0_3) (hc0_3 : l0_3.length ≤ c0_3) (hr0_4 : Kd.C (Kd.int .i64) w A0_4 l0_4.length l0_4) (hc0_4 : l0_4.length ≤ c0_4) (hr0_5 : Kd.C (Kd.int .u8) w A0_5 l0_5.length l0_5) (hc0_5 : l0_5.length ≤ c0_5) (h : slabvaultlaw13_heavy.f k l0_0 a0_1 l0_2 l0_3 l0_4 l0_5 = some r) :
    Calls Try.prog 15 #[.agg #[.slice A0_0 l0_0.length c0_0, .int .i64 a0_1, .slice A0_2 l0_2.length c0_2, .slice A0_3 l0_3.length c0_3, .slice A0_4 l0_4.length c0_4, .slice A0_5 l0_5.length c0_5]] w fun e w' => e = .returned (.bool r) ∧ Below w.heap.size w w' := by
  have hu33 := Try.underlying33
  have HR0_0 := Aside0.mk hr0_0
  have HC0_0 := Aside0.mk hc0_0
  clear hr0_0 hc0_0
  have HR0_2 := Aside0.mk hr0_2
  have HC0_2 := Aside0.mk hc0_2
  clear hr0_2 hc0_2
  have HR0_3 := Aside0.mk hr0_3
  have HC0_3 := Aside0.mk hc0_3
  clear hr0_3 hc0_3
  have HR0_4 := Aside0.mk hr0_4
  have HC0_4 := Aside0.mk hc0_4
  clear hr0_4 hc0_4
  have HR0_5 := Aside0.mk hr0_5
  have HC0_5 := Aside0.mk hc0_5
  clear hr0_5 hc0_5
  have HB := Aside0.mk (Below.refl w.heap.size w)
  have H : (if (l0_0.length : Int) > 10000 then (some true) else (if (l0_5.length : Int) > 10000 then (some true) else ((slabvaultlaw13_wide.f k l0_2).bind fun t242 => (if t242 = true then (some true) else ((slabvaultlaw13_wide.f k l0_3).bind fun t243 => (some t243)))))) = some r := h
  clear h
  by_cases c2 : (l0_0.length : Int) > 10000
  · rw [if_pos c2] at H
    have c2b0 : decide (10000 < (l0_0.length : Int)) = true := decide_eq_true c2
    have c2b1 : decide (10000 < l0_0.length) = true := decide_eq_true (by omega)
    clear c2
    obtain rfl := Option.some.inj H
    go_enter Try.func15, Try.ntmps15
    go_wp2_with (first | ((with_reducible refine gate_dst (N := 1) rfl ?_); (try (refine gate_guard (by rfl) ?_; dsimp only)); refine box_event ?hg (N := 1) ?hd (cs := #[.slice A0_0 l0_0.length c0_0, .int .i64 a0_1, .slice A0_2 l0_2.length c0_2, .slice A0_3 l0_3.length c0_3, .slice A0_4 l0_4.length c0_4, .slice A0_5 l0_5.length c0_5]) (t := 33) ?hr ?_; (case hd => rfl); (case hg => rfl); (case hr => first | (go_simp; done) | (go_simp; rfl)); intro gb241 hg w3 hbox hb; have n0_ := Aside0.mk (below_step (by repeat (first | (with_reducible first | exact HB.out | apply below_alloc | apply pw_below_drewN | apply below_drew1) | exact HB.out)) hb); have n1_ := Aside0.mk (hbox); have n2_ := Aside0.mk ((by rw [hg]; exact (below_size (by repeat (first | (with_reducible first | exact HB.out | apply below_alloc | apply pw_below_drewN | apply below_drew1) | exact HB.out))) : w.heap.size ≤ gb241)); have n3_ := Aside0.mk ((by rw [hg]; exact (below_size (by repeat (first | (with_reducible first | exact HB.out | apply below_alloc | apply pw_below_drewN | apply below_drew1) | exact HB.out))) : w.heap.size ≤ gb241)); clear HB; have HB := n0_; have BK241 := n1_; have GW241 := n2_; have GE241 := n3_; clear n0_ n1_ n2_ n3_; clear hb hbox hg; have hcz4_0 : w3.cell? ⟨gb241, 0, none⟩ = some (.slice A0_0 l0_0.length c0_0) := (blk_cell BK241.out 0).trans rfl; have hcz4_1 : w3.cell? ⟨gb241, 1, none⟩ = some (.int .i64 a0_1) := (blk_cell BK241.out 1).trans rfl; have hcz4_2 : w3.cell? ⟨gb241, 2, none⟩ = some (.slice A0_2 l0_2.length c0_2) := (blk_cell BK241.out 2).trans rfl; have hcz4_3 : w3.cell? ⟨gb241, 3, none⟩ = some (.slice A0_3 l0_3.length c0_3) := (blk_cell BK241.out 3).trans rfl; have hcz4_4 : w3.cell? ⟨gb241, 4, none⟩ = some (.slice A0_4 l0_4.length c0_4) := (blk_cell BK241.out 4).trans rfl; have hcz4_5 : w3.cell? ⟨gb241, 5, none⟩ = some (.slice A0_5 l0_5.length c0_5) := (blk_cell BK241.out 5).trans rfl; have hfz4_0 := blk_frozen BK241.out 0; have hfz4_1 := blk_frozen BK241.out 1; have hfz4_2 := blk_frozen BK241.out 2; have hfz4_3 := blk_frozen BK241.out 3; have hfz4_4 := blk_frozen BK241.out 4; have hfz4_5 := blk_frozen BK241.out 5))
    go_ret
    exact ⟨by first | rfl | (simp [errW_none, errW_some] <;> rfl) | (simp [*, errW_none, errW_some] <;> rfl), by repeat (first | (with_reducible first | exact HB.out | apply below_alloc | apply pw_below_drewN | apply below_drew1 | refine below_set ?_ GE241.out) | exact HB.out)⟩
  · rw [if_neg c2] at H
    have c2b0 : decide (10000 < (l0_0.length : Int)) = false := decide_eq_false c2
    have c2b1 : decide (10000 < l0_0.length) = false := decide_eq_false (by omega)
    clear c2
    by_cases c5 : (l0_5.length : Int) > 10000
    · rw [if_pos c5] at H
      have c5b0 : decide (10000 < (l0_5.length : Int)) = true := decide_eq_true c5
      have c5b1 : decide (10000 < l0_5.length) = true := decide_eq_true (by omega)
      clear c5
      obtain rfl := Option.some.inj H
      go_enter Try.func15, Try.ntmps15
      go_wp2_with (first | ((with_reducible refine gate_dst (N := 1) rfl ?_); (try (refine gate_guard (by rfl) ?_; dsimp only)); refine box_event ?hg (N := 1) ?hd (cs := #[.slice A0_0 l0_0.length c0_0, .int .i64 a0_1, .slice A0_2 l0_2.length c0_2, .slice A0_3 l0_3.length c0_3, .slice A0_4 l0_4.length c0_4, .slice A0_5 l0_5.length c0_5]) (t := 33) ?hr ?_; (case hd => rfl); (case hg => rfl); (case hr => first | (go_simp; done) | (go_simp; rfl)); intro gb241 hg w6 hbox hb; have n0_ := Aside0.mk (below_step (by repeat (first | (with_reducible first | exact HB.out | apply below_alloc | apply pw_below_drewN | apply below_drew1) | exact HB.out)) hb); have n1_ := Aside0.mk (hbox); have n2_ := Aside0.mk ((by rw [hg]; exact (below_size (by repeat (first | (with_reducible first | exact HB.out | apply below_alloc | apply pw_below_drewN | apply below_drew1) | exact HB.out))) : w.heap.size ≤ gb241)); have n3_ := Aside0.mk ((by rw [hg]; exact (below_size (by repeat (first | (with_reducible first | exact HB.out | apply below_alloc | apply pw_below_drewN | apply below_drew1) | exact HB.out))) : w.heap.size ≤ gb241)); clear HB; have HB := n0_; have BK241 := n1_; have GW241 := n2_; have GE241 := n3_; clear n0_ n1_ n2_ n3_; clear hb hbox hg; have hcz7_0 : w6.cell? ⟨gb241, 0, none⟩ = some (.slice A0_0 l0_0.length c0_0) := (blk_cell BK241.out 0).trans rfl; have hcz7_1 : w6.cell? ⟨gb241, 1, none⟩ = some (.int .i64 a0_1) := (blk_cell BK241.out 1).trans rfl; have hcz7_2 : w6.cell? ⟨gb241, 2, none⟩ = some (.slice A0_2 l0_2.length c0_2) := (blk_cell BK241.out 2).trans rfl; have hcz7_3 : w6.cell? ⟨gb241, 3, none⟩ = some (.slice A0_3 l0_3.length c0_3) := (blk_cell BK241.out 3).trans rfl; have hcz7_4 : w6.cell? ⟨gb241, 4, none⟩ = some (.slice A0_4 l0_4.length c0_4) := (blk_cell BK241.out 4).trans rfl; have hcz7_5 : w6.cell? ⟨gb241, 5, none⟩ = some (.slice A0_5 l0_5.length c0_5) := (blk_cell BK241.out 5).trans rfl; have hfz7_0 := blk_frozen BK241.out 0; have hfz7_1 := blk_frozen BK241.out 1; have hfz7_2 := blk_frozen BK241.out 2; have hfz7_3 := blk_frozen BK241.out 3; have hfz7_4 := blk_frozen BK241.out 4; have hfz7_5 := blk_frozen BK241.out 5))
      go_ret
      exact ⟨by first | rfl | (simp [errW_none, errW_some] <;> rfl) | (simp [*, errW_none, errW_some] <;> rfl), by repeat (first | (with_reducible first | exact HB.out | apply below_alloc | apply pw_below_drewN | apply below_drew1 | refine below_set ?_ GE241.out) | exact HB.out)⟩
    · rw [if_neg c5] at H
      have c5b0 : decide (10000 < (l0_5.length : Int)) = false := decide_eq_false c5
      have c5b1 : decide (10000 < l0_5.length) = false := decide_eq_false (by omega)
      clear c5
      replace H := Option.bind_eq_some_iff.mp H
      obtain ⟨t242, A80, H⟩ := H
      replace H : (if t242 = true then (some true) else ((slabvaultlaw13_wide.f k l0_3).bind fun t243 => (some t243))) = some r := H
      have A8 := Aside0.mk A80
      clear A80
      by_cases c9 : t242 = true
      · subst c9
        have H1 : (some true) = some r := by rw [if_pos rfl] at H; exact H
        clear H
        have H := H1
        clear H1
        obtain rfl := Option.some.inj H
        go_enter Try.func15, Try.ntmps15
        go_wp2_with (first | ((with_reducible refine gate_dst (N := 1) rfl ?_); (try (refine gate_guard (by rfl) ?_; dsimp only)); refine box_event ?hg (N := 1) ?hd (cs := #[.slice A0_0 l0_0.length c0_0, .int .i64 a0_1, .slice A0_2 l0_2.length c0_2, .slice A0_3 l0_3.length c0_3, .slice A0_4 l0_4.length c0_4, .slice A0_5 l0_5.length c0_5]) (t := 33) ?hr ?_; (case hd => rfl); (case hg => rfl); (case hr => first | (go_simp; done) | (go_simp; rfl)); intro gb241 hg w10 hbox hb; have n0_ := Aside0.mk (below_step (by repeat (first | (with_reducible first | exact HB.out | apply below_alloc | apply pw_below_drewN | apply below_drew1) | exact HB.out)) hb); have n1_ := Aside0.mk (hbox); have n2_ := Aside0.mk ((by rw [hg]; exact (below_size (by repeat (first | (with_reducible first | exact HB.out | apply below_alloc | apply pw_below_drewN | apply below_drew1) | exact HB.out))) : w.heap.size ≤ gb241)); have n3_ := Aside0.mk ((by rw [hg]; exact (below_size (by repeat (first | (with_reducible first | exact HB.out | apply below_alloc | apply pw_below_drewN | apply below_drew1) | exact HB.out))) : w.heap.size ≤ gb241)); clear HB; have HB := n0_; have BK241 := n1_; have GW241 := n2_; have GE241 := n3_; clear n0_ n1_ n2_ n3_; clear hb hbox hg; have hcz11_0 : w10.cell? ⟨gb241, 0, none⟩ = some (.slice A0_0 l0_0.length c0_0) := (blk_cell BK241.out 0).trans rfl; have hcz11_1 : w10.cell? ⟨gb241, 1, none⟩ = some (.int .i64 a0_1) := (blk_cell BK241.out 1).trans rfl; have hcz11_2 : w10.cell? ⟨gb241, 2, none⟩ = some (.slice A0_2 l0_2.length c0_2) := (blk_cell BK241.out 2).trans rfl; have hcz11_3 : w10.cell? ⟨gb241, 3, none⟩ = some (.slice A0_3 l0_3.length c0_3) := (blk_cell BK241.out 3).trans rfl; have hcz11_4 : w10.cell? ⟨gb241, 4, none⟩ = some (.slice A0_4 l0_4.length c0_4) := (blk_cell BK241.out 4).trans rfl; have hcz11_5 : w10.cell? ⟨gb241, 5, none⟩ = some (.slice A0_5 l0_5.length c0_5) := (blk_cell BK241.out 5).trans rfl; have hfz11_0 := blk_frozen BK241.out 0; have hfz11_1 := blk_frozen BK241.out 1; have hfz11_2 := blk_frozen BK241.out 2; have hfz11_3 := blk_frozen BK241.out 3; have hfz11_4 := blk_frozen BK241.out 4; have hfz11_5 := blk_frozen BK241.out 5) | (go_at_call 23; (with_reducible refine (slabvaultlaw13_wide.calls k _ _ l0_2 true _ ?side1 ?side2 A8.out).mono ?_); (case side1 => repeat (first | exact (Kd.C_below HR0_2.out HB.out) | (with_reducible refine Kd.C_alloc ?_ _) | (with_reducible refine Kd.C_drewN ?_ _) | (with_reducible refine Kd.C_drew ?_))); (case side2 => exact HC0_2.out); rintro e w' ⟨rfl, ⟨nd, rfl⟩⟩))
        go_ret
        exact ⟨by first | rfl | (simp [errW_none, errW_some] <;> rfl) | (simp [*, errW_none, errW_some] <;> rfl), by repeat (first | (with_reducible first | exact HB.out | apply below_alloc | apply pw_below_drewN | apply below_drew1 | refine below_set ?_ GE241.out) | exact HB.out)⟩
      · replace c9 := Bool.eq_false_iff.mpr c9
        subst c9
        have H1 : ((slabvaultlaw13_wide.f k l0_3).bind fun t243 => (some t243)) = some r := by rw [if_neg (show ¬ (false = true) by decide)] at H; exact H
        clear H
        have H := H1
        clear H1
        replace H := Option.bind_eq_some_iff.mp H
        obtain ⟨t243, A120, H⟩ := H
        replace H : (some t243) = some r := H
        have A12 := Aside0.mk A120
        clear A120
        obtain rfl := Option.some.inj H
        go_enter Try.func15, Try.ntmps15
        go_wp2_with (first | ((with_reducible refine gate_dst (N := 1) rfl ?_); (try (refine gate_guard (by rfl) ?_; dsimp only)); refine box_event ?hg (N := 1) ?hd (cs := #[.slice A0_0 l0_0.length c0_0, .int .i64 a0_1, .slice A0_2 l0_2.length c0_2, .slice A0_3 l0_3.length c0_3, .slice A0_4 l0_4.length c0_4, .slice A0_5 l0_5.length c0_5]) (t := 33) ?hr ?_; (case hd => rfl); (case hg => rfl); (case hr => first | (go_simp; done) | (go_simp; rfl)); intro gb241 hg w13 hbox hb; have n0_ := Aside0.mk (below_step (by repeat (first | (with_reducible first | exact HB.out | apply below_alloc | apply pw_below_drewN | apply below_drew1) | exact HB.out)) hb); have n1_ := Aside0.mk (hbox); have n2_ := Aside0.mk ((by rw [hg]; exact (below_size (by repeat (first | (with_reducible first | exact HB.out | apply below_alloc | apply pw_below_drewN | apply below_drew1) | exact HB.out))) : w.heap.size ≤ gb241)); have n3_ := Aside0.mk ((by rw [hg]; exact (below_size (by repeat (first | (with_reducible first | exact HB.out | apply below_alloc | apply pw_below_drewN | apply below_drew1) | exact HB.out))) : w.heap.size ≤ gb241)); clear HB; have HB := n0_; have BK241 := n1_; have GW241 := n2_; have GE241 := n3_; clear n0_ n1_ n2_ n3_; clear hb hbox hg; have hcz14_0 : w13.cell? ⟨gb241, 0, none⟩ = some (.slice A0_0 l0_0.length c0_0) := (blk_cell BK241.out 0).trans rfl; have hcz14_1 : w13.cell? ⟨gb241, 1, none⟩ = some (.int .i64 a0_1) := (blk_cell BK241.out 1).trans rfl; have hcz14_2 : w13.cell? ⟨gb241, 2, none⟩ = some (.slice A0_2 l0_2.length c0_2) := (blk_cell BK241.out 2).trans rfl; have hcz14_3 : w13.cell? ⟨gb241, 3, none⟩ = some (.slice A0_3 l0_3.length c0_3) := (blk_cell BK241.out 3).trans rfl; have hcz14_4 : w13.cell? ⟨gb241, 4, none⟩ = some (.slice A0_4 l0_4.length c0_4) := (blk_cell BK241.out 4).trans rfl; have hcz14_5 : w13.cell? ⟨gb241, 5, none⟩ = some (.slice A0_5 l0_5.length c0_5) := (blk_cell BK241.out 5).trans rfl; have hfz14_0 := blk_frozen BK241.out 0; have hfz14_1 := blk_frozen BK241.out 1; have hfz14_2 := blk_frozen BK241.out 2; have hfz14_3 := blk_frozen BK241.out 3; have hfz14_4 := blk_frozen BK241.out 4; have hfz14_5 := blk_frozen BK241.out 5) | (go_at_call 23; (with_reducible refine (slabvaultlaw13_wide.calls k _ _ l0_2 false _ ?side1 ?side2 A8.out).mono ?_); (case side1 => repeat (first | exact (Kd.C_below HR0_2.out HB.out) | (with_reducible refine Kd.C_alloc ?_ _) | (with_reducible refine Kd.C_drewN ?_ _) | (with_reducible refine Kd.C_drew ?_))); (case side2 => exact HC0_2.out); rintro e w' ⟨rfl, ⟨nd, rfl⟩⟩) | (go_at_call 23; (with_reducible refine (slabvaultlaw13_wide.calls k _ _ l0_3 t243 _ ?side1 ?side2 A12.out).mono ?_); (case side1 => repeat (first | exact (Kd.C_below HR0_3.out (by repeat (first | (with_reducible first | exact HB.out | apply below_alloc | apply pw_below_drewN | apply below_drew1 | refine below_set ?_ GE241.out) | exact HB.out))) | (with_reducible refine Kd.C_alloc ?_ _) | (with_reducible refine Kd.C_drewN ?_ _) | (with_reducible refine Kd.C_drew ?_))); (case side2 => exact HC0_3.out); rintro e w' ⟨rfl, ⟨nd, rfl⟩⟩))
        go_ret
        exact ⟨by first | rfl | (simp [errW_none, errW_some] <;> rfl) | (simp [*, errW_none, errW_some] <;> rfl), by repeat (first | (with_reducible first | exact HB.out | apply below_alloc | apply pw_below_drewN | apply below_drew1 | refine below_set ?_ GE241.out) | exact HB.out)⟩
end Go.Proofs.Ytjbjofmcmjojlab.Wk
end
section
namespace Go.Proofs.Ytjbjofmcmjojlab.Wk
open Go.RowKit Go.Proofs.YtjbjofmcmjojlabW.PrintWords Go.Proofs.YtjbjofmcmjojlabW.PrintLast Go.Proofs.YtjbjofmcmjojlabW.PrintMore
attribute [local go_sem] max2_int min2_int max_two min_two max_three min_three max_four min_four
set_option linter.unusedVariables false
set_option linter.unusedSimpArgs false
def slices_Clone_byte_byte.f (l0 : List Int) : Option (List Int) := if l0.length ≤ 140737488355328 then some l0 else none
end Go.Proofs.Ytjbjofmcmjojlab.Wk
end
section
namespace Go.Proofs.Ytjbjofmcmjojlab.Wk
open Go.RowKit Go.Proofs.YtjbjofmcmjojlabW.PrintWords Go.Proofs.YtjbjofmcmjojlabW.PrintLast Go.Proofs.YtjbjofmcmjojlabW.PrintMore
attribute [local go_sem] max2_int min2_int max_two min_two max_three min_three max_four min_four
set_option linter.unusedVariables false
set_option linter.unusedSimpArgs false
section
open Go.Proofs.YtjbjofmcmjojlabQ
structure grid_Paste1Mem (BH : Nat) (AH : Option Addr) (cH : Nat) (H : List Int) (BZ : Nat) (z : Int) (BD : Nat) (AD : Option Addr) (cD : Nat) (D : List Int) (BS : Nat) (AS : Option Addr) (cS : Nat) (S : List Int) (BO : Nat) (g n cO : Nat) (BX : Nat) (aX : Addr) (cX : Nat) (X : List Int) (W : World) : Prop where
  bH : W.cell? ⟨BH, 0, none⟩ = some (.slice AH H.length cH)
  bZ : W.cell? ⟨BZ, 0, none⟩ = some (.int .i64 z)
  bD : W.cell? ⟨BD, 0, none⟩ = some (.slice AD D.length cD)
  bS : W.cell? ⟨BS, 0, none⟩ = some (.slice AS S.length cS)
  bO : W.cell? ⟨BO, 0, none⟩ = some (.slice (some ⟨g, 0, none⟩) n cO)
  bX : W.cell? ⟨BX, 0, none⟩ = some (.slice (some aX) X.length cX)
  rH : (Kd.int .i64).C W AH H.length H
  lH : H.length ≤ cH
  rD : (Kd.int .i64).C W AD D.length D
  lD : D.length ≤ cD
  rS : (Kd.int .i64).C W AS S.length S
  lS : S.length ≤ cS
  lO : n ≤ cO
  rX : (Kd.int .u8).C W (some aX) X.length X
  lX : X.length ≤ cX
end
end Go.Proofs.Ytjbjofmcmjojlab.Wk
end
section
namespace Go.Proofs.Ytjbjofmcmjojlab.Wk
open Go.RowKit Go.Proofs.YtjbjofmcmjojlabW.PrintWords Go.Proofs.YtjbjofmcmjojlabW.PrintLast Go.Proofs.YtjbjofmcmjojlabW.PrintMore
attribute [local go_sem] max2_int min2_int max_two min_two max_three min_three max_four min_four
set_option linter.unusedVariables false
set_option linter.unusedSimpArgs false
section
open Go.Proofs.YtjbjofmcmjojlabQ
def grid_pasteStep (k : Nat) (D S : List Int) (z : Int) (H X : List Int) (n : Nat) (O : List Int) (q : List Int × Int) : Option (List Int) :=
  (grid_place.f k H q.1).bind fun p1 => (grid_moved.f k q.1 S).bind fun mv => (grid_place.f k D mv).bind fun p2 =>
  if 0 ≤ p1 * z ∧ 0 ≤ p2 * z ∧ 1 ≤ q.2 * z ∧ p1 * z + q.2 * z ≤ (X.length : Int) ∧ p2 * z + q.2 * z ≤ (n : Int) ∧ p1 * z + p2 * z + q.2 * z + (n : Int) ≤ 1000000 then some (laid O (p2 * z).toNat ((X.drop (p1 * z).toNat).take (q.2 * z).toNat)) else none
def grid_pasteFold (k : Nat) (D S : List Int) (z : Int) (H X : List Int) (n : Nat) (O : List Int) (l : List (List Int × Int)) : Option (List Int) := l.foldlM (grid_pasteStep k D S z H X n) O
def grid_Paste.f (k : Nat) (Y : List Int) (z : Int) (D H c X : List Int) : Option (List Int × Int) :=
  (grid_fit.f D H).bind fun e1 => if e1 = 0 then ((grid_sized.f k z [D, H]).bind fun e2 => if e2 = 0 then ((space_Elements.f D).bind fun n => (space_Elements.f H).bind fun m =>
    (grid_right.f c D.length).bind fun b => if (Y.length : Int) = wrap64 (n.1 * z) ∧ (X.length : Int) = wrap64 (m.1 * z) ∧ b = true then
      ((slices_Clone_byte_byte.f Y).bind fun O => (grid_Clip.f k D H c).bind fun p => if p.2.1.length ≤ 4 ∧ ∀ x ∈ p.2.1, 0 ≤ x ∧ x ≤ 1048576 then (grid_pasteFold k D p.1 z H X O.length O (rowsOf p.2.1)).bind fun r => some (r, 0) else none)
    else some ([], 2)) else some ([], e2)) else some ([], e1)
end
end Go.Proofs.Ytjbjofmcmjojlab.Wk
end
section
namespace Go.Proofs.Ytjbjofmcmjojlab.Wk
open Go.RowKit Go.Proofs.YtjbjofmcmjojlabW.PrintWords Go.Proofs.YtjbjofmcmjojlabW.PrintLast Go.Proofs.YtjbjofmcmjojlabW.PrintMore
attribute [local go_sem] max2_int min2_int max_two min_two max_three min_three max_four min_four
set_option linter.unusedVariables false
set_option linter.unusedSimpArgs false
section
open Go.Proofs.YtjbjofmcmjojlabQ
structure CaseAt (W : World) (b : Nat) (A0 : Option Addr) (c0 : Nat) (X : List Int) (z : Int) (A2 : Option Addr) (c2 : Nat) (D : List Int) (A3 : Option Addr) (c3 : Nat) (H : List Int) (A4 : Option Addr) (c4 : Nat) (co : List Int) (A5 : Option Addr) (c5 : Nat) (L : List Int) : Prop where
  blk : W.heap[b]? = some (.cells #[.slice A0 X.length c0, .int .i64 z, .slice A2 D.length c2, .slice A3 H.length c3, .slice A4 co.length c4, .slice A5 L.length c5] 33 (0, 0))
  r0 : Kd.C (Kd.int .u8) W A0 X.length X
  l0 : X.length ≤ c0
  r2 : Kd.C (Kd.int .i64) W A2 D.length D
  l2 : D.length ≤ c2
  r3 : Kd.C (Kd.int .i64) W A3 H.length H
  l3 : H.length ≤ c3
  r4 : Kd.C (Kd.int .i64) W A4 co.length co
  l4 : co.length ≤ c4
  r5 : Kd.C (Kd.int .u8) W A5 L.length L
  l5 : L.length ≤ c5
theorem caseAt_below {W W' : World} {b : Nat} {A0 : Option Addr} {c0 : Nat} {X : List Int} {z : Int} {A2 : Option Addr} {c2 : Nat} {D : List Int} {A3 : Option Addr} {c3 : Nat} {H : List Int} {A4 : Option Addr} {c4 : Nat} {co : List Int} {A5 : Option Addr} {c5 : Nat} {L : List Int}
    (h : CaseAt W b A0 c0 X z A2 c2 D A3 c3 H A4 c4 co A5 c5 L) (hb : Below W.heap.size W W') : CaseAt W' b A0 c0 X z A2 c2 D A3 c3 H A4 c4 co A5 c5 L :=
  ⟨(hb.block b (Array.getElem?_eq_some_iff.1 h.blk).1).trans h.blk, Kd.C_below h.r0 hb, h.l0, Kd.C_below h.r2 hb, h.l2, Kd.C_below h.r3 hb, h.l3, Kd.C_below h.r4 hb, h.l4, Kd.C_below h.r5 hb, h.l5⟩
theorem caseAt_cells {W : World} {b : Nat} {A0 : Option Addr} {c0 : Nat} {X : List Int} {z : Int} {A2 : Option Addr} {c2 : Nat} {D : List Int} {A3 : Option Addr} {c3 : Nat} {H : List Int} {A4 : Option Addr} {c4 : Nat} {co : List Int} {A5 : Option Addr} {c5 : Nat} {L : List Int}
    (h : CaseAt W b A0 c0 X z A2 c2 D A3 c3 H A4 c4 co A5 c5 L) : W.cell? ⟨b, 0, none⟩ = some (.slice A0 X.length c0) ∧ W.cell? ⟨b, 1, none⟩ = some (.int .i64 z) ∧ W.cell? ⟨b, 2, none⟩ = some (.slice A2 D.length c2) ∧ W.cell? ⟨b, 3, none⟩ = some (.slice A3 H.length c3) ∧ W.cell? ⟨b, 4, none⟩ = some (.slice A4 co.length c4) ∧ W.cell? ⟨b, 5, none⟩ = some (.slice A5 L.length c5) :=
  ⟨(blk_cell h.blk 0).trans rfl, (blk_cell h.blk 1).trans rfl, (blk_cell h.blk 2).trans rfl, (blk_cell h.blk 3).trans rfl, (blk_cell h.blk 4).trans rfl, (blk_cell h.blk 5).trans rfl⟩
end
end Go.Proofs.Ytjbjofmcmjojlab.Wk
end
section
namespace Go.Proofs.Ytjbjofmcmjojlab.Wk
open Go.RowKit Go.Proofs.YtjbjofmcmjojlabW.PrintWords Go.Proofs.YtjbjofmcmjojlabW.PrintLast Go.Proofs.YtjbjofmcmjojlabW.PrintMore
attribute [local go_sem] max2_int min2_int max_two min_two max_three min_three max_four min_four
set_option linter.unusedVariables false
set_option linter.unusedSimpArgs false
section
open Go.Proofs.YtjbjofmcmjojlabQ
def OwnAt (e : Nat) (W : World) (row : Option Nat) (v : Value) (r : List Int) : Prop := (row = none ∧ r = [] ∧ ∃ A c, v = .slice A 0 c) ∨ ∃ g c, row = some g ∧ v = .slice (some ⟨g, 0, none⟩) r.length c ∧ r.length ≤ c ∧ Buf e W g r.length r
theorem ownB_at {e : Nat} {W : World} {base : Nat} {v : Value} {r : List Int} (h : OwnB e W base v r) : ∃ row, OwnAt e W row v r ∧ ∀ k, row = some k → base ≤ k ∧ k < W.heap.size := by
  rcases h with ⟨h1, h2⟩ | ⟨g, c, h1, h2, h3, h4⟩
  · exact ⟨none, .inl ⟨rfl, h1, h2⟩, fun k hk => by cases hk⟩
  · exact ⟨some g, .inr ⟨g, c, rfl, h1, h2, h4⟩, fun k hk => by cases hk; exact ⟨h3, h4.lt⟩⟩
theorem ownAt_slice {e : Nat} {W : World} {row : Option Nat} {v : Value} {r : List Int} (h : OwnAt e W row v r) : ∃ A c, v = .slice A r.length c ∧ r.length ≤ c ∧ Kd.C (Kd.int .u8) W A r.length r := by
  rcases h with ⟨-, rfl, A, c, rfl⟩ | ⟨g, c, -, h1, h2, h3⟩
  · exact ⟨A, c, rfl, Nat.zero_le _, ⟨rfl, by simp, by simp⟩⟩
  · exact ⟨_, c, h1, h2, h3.C rfl⟩
theorem own_lt {e : Nat} {W : World} {row : Option Nat} {v : Value} {r : List Int} (h : OwnAt e W row v r) {k : Nat} (hk : row = some k) : k < W.heap.size := by
  rcases h with ⟨h0, -⟩ | ⟨g, c, h0, -, -, h3⟩
  · rw [h0] at hk; cases hk
  · rw [h0] at hk; cases hk; exact h3.lt
end
end Go.Proofs.Ytjbjofmcmjojlab.Wk
end
section
namespace Go.Proofs.Ytjbjofmcmjojlab.Wk
open Go.RowKit Go.Proofs.YtjbjofmcmjojlabW.PrintWords Go.Proofs.YtjbjofmcmjojlabW.PrintLast Go.Proofs.YtjbjofmcmjojlabW.PrintMore
attribute [local go_sem] max2_int min2_int max_two min_two max_three min_three max_four min_four
set_option linter.unusedVariables false
set_option linter.unusedSimpArgs false
section
open Go.Proofs.YtjbjofmcmjojlabQ
def growTo : List Int → List Int → Option (List Int)
  | d :: D, m :: M => if d < 0 ∨ 1048576 < d then none else (growTo D M).map (fun T => (d + m % 4) :: T)
  | D, [] => some D
  | [], _ :: _ => some []
def GrowP (k : Nat) (X : List Int) (z : Int) (D H c L M : List Int) : Prop :=
  ∃ hv, slabvaultlaw13_heavy.f k X z D H c L = some hv ∧ (hv = false → ∀ T, growTo D M = some T → ∃ wv, slabvaultlaw13_wide.f k T = some wv ∧ (wv = false → ∃ r e, grid_Resize.f k X z D T L = some (r, e) ∧ ((e ≠ 0 ∧ r = []) ∨ (e = 0 ∧ grid_Resize.f k r z T D L = some (X, 0) ∧ ∃ n ne, slabvaultref12_Elements.f k T = some (n, ne) ∧ (r.length : Int) = wrap64 (n * z)))))
theorem grow_end {D M pre : List Int} {i : Nat} (h : growTo D M = (growTo (D.drop i) (M.drop i)).map (pre ++ ·)) (hi : ¬ (i < D.length ∧ i < M.length)) : growTo D M = some (pre ++ D.drop i) := by
  rw [h]
  by_cases h1 : i < M.length
  · rw [List.drop_eq_nil_of_le (show D.length ≤ i by omega)]
    cases M.drop i <;> rfl
  · rw [List.drop_eq_nil_of_le (show M.length ≤ i by omega)]
    cases D.drop i <;> rfl
theorem grow_more {D M pre : List Int} {i : Nat} (h : growTo D M = (growTo (D.drop i) (M.drop i)).map (pre ++ ·)) (h1 : i < D.length) (h2 : i < M.length) (hd : ¬ (D[i] < 0 ∨ 1048576 < D[i])) : growTo D M = (growTo (D.drop (i + 1)) (M.drop (i + 1))).map ((pre ++ [D[i] + M[i] % 4]) ++ ·) := by
  rw [h, List.drop_eq_getElem_cons h1, List.drop_eq_getElem_cons h2, growTo, if_neg hd, Option.map_map]
  congr 1
  funext T
  simp
theorem mix_at {D pre : List Int} {i : Nat} (hp : pre.length = i) (hi : i < D.length) : rd (pre ++ D.drop i) (i : Int) = D[i] := by
  simp only [rd, Int.toNat_natCast]
  rw [List.getD_eq_getElem?_getD, List.getElem?_append_right (by omega), hp, Nat.sub_self, List.getElem?_drop]
  simp [hi]
theorem mix_put {D pre : List Int} {i : Nat} (hp : pre.length = i) (hi : i < D.length) (v : Int) : (pre ++ D.drop i).set i v = (pre ++ [v]) ++ D.drop (i + 1) := by
  rw [List.set_append_right _ _ (by omega), hp, Nat.sub_self, List.drop_eq_getElem_cons hi, List.set_cons_zero]
  simp
set_option maxHeartbeats 4000000 in
set_option maxRecDepth 10000 in
theorem gridGrows_heavy (k : Nat) (A0 : Option Addr) (c0 : Nat) (X : List Int) (z : Int) (A2 : Option Addr) (c2 : Nat) (D : List Int) (A3 : Option Addr) (c3 : Nat) (H : List Int) (A4 : Option Addr) (c4 : Nat) (co : List Int) (A5 : Option Addr) (c5 : Nat) (L : List Int) (A6 : Option Addr) (c6 : Nat) (M : List Int) (w : World)
    (hr0 : Kd.C (Kd.int .u8) w A0 X.length X) (hc0 : X.length ≤ c0) (hr2 : Kd.C (Kd.int .i64) w A2 D.length D) (hc2 : D.length ≤ c2) (hr3 : Kd.C (Kd.int .i64) w A3 H.length H) (hc3 : H.length ≤ c3)
    (hr4 : Kd.C (Kd.int .i64) w A4 co.length co) (hc4 : co.length ≤ c4) (hr5 : Kd.C (Kd.int .u8) w A5 L.length L) (hc5 : L.length ≤ c5) (hr6 : Kd.C (Kd.int .u64) w A6 M.length M) (hc6 : M.length ≤ c6) (hh : slabvaultlaw13_heavy.f k X z D H co L = some true) :
    Calls Try.prog 6 #[.agg #[.slice A0 X.length c0, .int .i64 z, .slice A2 D.length c2, .slice A3 H.length c3, .slice A4 co.length c4, .slice A5 L.length c5], .slice A6 M.length c6] w fun E w' => E = .returned (.bool true) ∧ Below w.heap.size w w' := by
  have hu := Try.underlying33
  go_enter Try.func6, Try.ntmps6
  go_upto_region 1 with (first | ((with_reducible refine gate_dst (N := 2) rfl ?_); refine box_event ?hg (N := 2) ?hd (cs := #[.slice A0 X.length c0, .int .i64 z, .slice A2 D.length c2, .slice A3 H.length c3, .slice A4 co.length c4, .slice A5 L.length c5]) (t := 33) ?hr ?_; (case hd => rfl); (case hg => rfl); (case hr => first | (go_simp; done) | (go_simp; rfl)); intro b hg w1 hbox hb; have HBX := Aside0.mk hbox; have HB := Aside0.mk hb; clear hbox hb))
  subst hg
  have HCA := Aside0.mk (CaseAt.mk HBX.out (Kd.C_below hr0 HB.out) hc0 (Kd.C_below hr2 HB.out) hc2 (Kd.C_below hr3 HB.out) hc3 (Kd.C_below hr4 HB.out) hc4 (Kd.C_below hr5 HB.out) hc5)
  have HM1 := Aside0.mk (Kd.C_below hr6 HB.out)
  have HC6 := Aside0.mk hc6
  have HH := Aside0.mk hh
  clear hr0 hc0 hr2 hc2 hr3 hc3 hr4 hc4 hr5 hc5 hr6 hc6 HBX hh
  obtain ⟨b0, b1, b2, b3, b4, b5⟩ := caseAt_cells HCA.out
  go_upto_region 2 with (go_at_call 15; refine (slabvaultlaw13_heavy.calls k A0 c0 X z A2 c2 D A3 c3 H A4 c4 co A5 c5 L true _ HCA.out.r0 HCA.out.l0 HCA.out.r2 HCA.out.l2 HCA.out.r3 HCA.out.l3 HCA.out.r4 HCA.out.l4 HCA.out.r5 HCA.out.l5 HH.out).mono ?_; rintro e_ w2 ⟨rfl, hb⟩; have HB2 := Aside0.mk (below_step HB.out hb); have HC := Aside0.mk (caseAt_below HCA.out hb); have HM := Aside0.mk (Kd.C_below HM1.out hb); clear hb)
  clear b0 b1 b2 b3 b4 b5
  clear HH HCA HB HM1
  go_wp2_with (go_at_call 14; (with_reducible refine (slabvaultlaw13_lives.calls true _ rfl).mono ?_); rintro e_ wE ⟨rfl, hb⟩; have HBE := Aside0.mk (below_step HB2.out hb); clear hb)
  go_ret
  exact ⟨rfl, HBE.out⟩
set_option maxHeartbeats 4000000 in
set_option maxRecDepth 10000 in
theorem gridGrows_light (k : Nat) (A0 : Option Addr) (c0 : Nat) (X : List Int) (z : Int) (A2 : Option Addr) (c2 : Nat) (D : List Int) (A3 : Option Addr) (c3 : Nat) (H : List Int) (A4 : Option Addr) (c4 : Nat) (co : List Int) (A5 : Option Addr) (c5 : Nat) (L : List Int) (A6 : Option Addr) (c6 : Nat) (M : List Int) (w : World)
    (hr0 : Kd.C (Kd.int .u8) w A0 X.length X) (hc0 : X.length ≤ c0) (hr2 : Kd.C (Kd.int .i64) w A2 D.length D) (hc2 : D.length ≤ c2) (hr3 : Kd.C (Kd.int .i64) w A3 H.length H) (hc3 : H.length ≤ c3)
    (hr4 : Kd.C (Kd.int .i64) w A4 co.length co) (hc4 : co.length ≤ c4) (hr5 : Kd.C (Kd.int .u8) w A5 L.length L) (hc5 : L.length ≤ c5) (hr6 : Kd.C (Kd.int .u64) w A6 M.length M) (hc6 : M.length ≤ c6) (hh : slabvaultlaw13_heavy.f k X z D H co L = some false) (hD8 : D.length * 8 ≤ 140737488351232) (hM0 : ∀ m ∈ M, 0 ≤ m) (hP : ∀ T, growTo D M = some T → ∃ wv, slabvaultlaw13_wide.f k T = some wv ∧ (wv = false → ∃ r e, grid_Resize.f k X z D T L = some (r, e) ∧ ((e ≠ 0 ∧ r = []) ∨ (e = 0 ∧ grid_Resize.f k r z T D L = some (X, 0) ∧ ∃ n ne, slabvaultref12_Elements.f k T = some (n, ne) ∧ (r.length : Int) = wrap64 (n * z))))) :
    Calls Try.prog 6 #[.agg #[.slice A0 X.length c0, .int .i64 z, .slice A2 D.length c2, .slice A3 H.length c3, .slice A4 co.length c4, .slice A5 L.length c5], .slice A6 M.length c6] w fun E w' => E = .returned (.bool true) ∧ Below w.heap.size w w' := by
  have HP := Aside0.mk hP
  have HD8 := Aside0.mk hD8
  have HM0 := Aside0.mk hM0
  clear hP hD8 hM0
  have hu := Try.underlying33
  go_enter Try.func6, Try.ntmps6
  go_upto_region 1 with (first | ((with_reducible refine gate_dst (N := 2) rfl ?_); refine box_event ?hg (N := 2) ?hd (cs := #[.slice A0 X.length c0, .int .i64 z, .slice A2 D.length c2, .slice A3 H.length c3, .slice A4 co.length c4, .slice A5 L.length c5]) (t := 33) ?hr ?_; (case hd => rfl); (case hg => rfl); (case hr => first | (go_simp; done) | (go_simp; rfl)); intro b hg w1 hbox hb; have HBX := Aside0.mk hbox; have HB := Aside0.mk hb; clear hbox hb))
  subst hg
  have HCA := Aside0.mk (CaseAt.mk HBX.out (Kd.C_below hr0 HB.out) hc0 (Kd.C_below hr2 HB.out) hc2 (Kd.C_below hr3 HB.out) hc3 (Kd.C_below hr4 HB.out) hc4 (Kd.C_below hr5 HB.out) hc5)
  have HM1 := Aside0.mk (Kd.C_below hr6 HB.out)
  have HC6 := Aside0.mk hc6
  have HH := Aside0.mk hh
  clear hr0 hc0 hr2 hc2 hr3 hc3 hr4 hc4 hr5 hc5 hr6 hc6 HBX hh
  obtain ⟨b0, b1, b2, b3, b4, b5⟩ := caseAt_cells HCA.out
  go_upto_region 3 with (go_at_call 15; refine (slabvaultlaw13_heavy.calls k A0 c0 X z A2 c2 D A3 c3 H A4 c4 co A5 c5 L false _ HCA.out.r0 HCA.out.l0 HCA.out.r2 HCA.out.l2 HCA.out.r3 HCA.out.l3 HCA.out.r4 HCA.out.l4 HCA.out.r5 HCA.out.l5 HH.out).mono ?_; rintro e_ w2 ⟨rfl, hb⟩; have HB2 := Aside0.mk (below_step HB.out hb); have HC := Aside0.mk (caseAt_below HCA.out hb); have HM := Aside0.mk (Kd.C_below HM1.out hb); clear hb)
  clear b0 b1 b2 b3 b4 b5
  clear HH HCA HB HM1
  obtain ⟨b0, b1, b2, b3, b4, b5⟩ := caseAt_cells HC.out
  go_upto_region 4 with (first
    | ((with_reducible refine gate_dst (N := 16) rfl ?_); refine Kd.R_lit (Kd.int .i64) _ 3 ?hg (N := 16) ?hd (xs := ([] : List Int)) (inner := []) (ok := fun _ => True) (okp := fun _ => True) ?hr ?hp (fun _ hk => hk) trivial (Below.refl _ _) (Nat.le_refl _) (by simp) ?_; (case hd => rfl); (case hg => rfl); (case hr => first | (go_simp; done) | (go_simp; rfl)); (case hp => exact (Reps.none _ _)); intro v16 w3 ho3 hb3 hg_ hnew_; clear hg_ hnew_; have HO3 := Aside0.mk ho3; have HB3 := Aside0.mk hb3; have HC3 := Aside0.mk (caseAt_below HC.out hb3); clear hb3 ho3; obtain ⟨b0, b1, b2, b3, b4, b5⟩ := caseAt_cells HC3.out)
    | ((with_reducible refine gate_builtin (b := .append) (xs := #[.tmp 16, .tmp 18]) rfl ?_); at_builtin; refine Kd.R_append_rows (Kd.int .i64) (w0 := w2) w2.heap.size rfl (.tmp 16) (.tmp 18) 22 3 (.int .i64 0) 8 rfl Try.underlying22 (by kernel_rfl) rfl (by decide) (by omega) v16 [] D _ _ _ (fun _ => True) (fun _ => False) rfl rfl ?aO ?aR (fun _ _ h => h) (fun _ h => h.elim) ?aF ?aB ?aS ?aL ?_; (case aR => exact HC3.out.r2); (case aB => exact HB3.out); (case aF => exact (fun _ _ => trivial)); (case aO => exact HO3.out); (case aS => exact HB3.out.size); (case aL => have := HD8.out; simp; omega); intro v5 w4 ho hb hg hat; have HB4 := Aside0.mk hb; obtain ⟨AT, cT, rfl⟩ := Kd.R_slice ho; have HO4 := Aside0.mk (show Kd.R (Kd.int .i64) 3 w4 w2.heap.size (fun _ => True) (.slice AT D.length cT) D from ho); clear ho hb hg hat))
  clear HC3 HO3 HB3
  try simp only [List.nil_append]
  go_wp2
  go_loopg [6] D.length (fun kq v6 W => ∃ (i : Nat) (pre : List Int), v6 = .int .i64 (i : Int) ∧ Aside0 (i ≤ D.length ∧ D.length - i ≤ kq ∧ pre.length = i) ∧ Aside0 (growTo D M = (growTo (D.drop i) (M.drop i)).map (pre ++ ·)) ∧ Aside0 (Kd.R (Kd.int .i64) 3 W w2.heap.size (fun _ => True) (.slice AT D.length cT) (pre ++ D.drop i)) ∧ Aside0 (Below w2.heap.size w2 W))
  case atStart => exact ⟨0, [], rfl, ⟨Nat.zero_le _, by omega, rfl⟩, ⟨by simp⟩, ⟨by simpa using HO4.out⟩, ⟨HB4.out⟩⟩
  case round =>
    obtain ⟨i, pre, rfl, HI, HG, HR, HBL⟩ := hrel
    clear HO4 HB4
    have d1 : decide ((i : Int) < (D.length : Int)) = decide (i < D.length) := by rw [decide_eq_decide]; omega
    have d2 : decide ((i : Int) < (M.length : Int)) = decide (i < M.length) := by rw [decide_eq_decide]; omega
    by_cases hi1 : i < D.length
    case neg =>
      have hi : ¬ (i < D.length ∧ i < M.length) := fun h => hi1 h.1
      have x1 : decide ((i : Int) < (D.length : Int)) = false := decide_eq_false (by omega)
      have x2 : (i < D.length) = False := eq_false hi1
      have x3 : decide (i < D.length) = false := decide_eq_false hi1
      clear d1 d2 hi1
      go_upto_region 10 with (fail)
      clear x1 x2 x3
      have hT := grow_end HG.out hi
      obtain ⟨wv, hw, hrest⟩ := HP.out _ hT
      have HW := Aside0.mk hw
      have HRS := Aside0.mk hrest
      clear hw hrest hT HP
      have hTl := (Kd.R_reads' HR.out).1
      generalize pre ++ D.drop i = T at HR HW HRS hTl
      have HT := Aside0.mk (show Kd.C (Kd.int .i64) wr AT T.length T from (Kd.R_reads' HR.out).2.2)
      have HTl := Aside0.mk hTl
      have HTc := Aside0.mk (show T.length ≤ cT by rw [← hTl]; exact (Kd.R_reads' HR.out).2.1)
      have HCw := Aside0.mk (caseAt_below HC.out HBL.out)
      have HBB := Aside0.mk (below_step HB2.out HBL.out)
      clear HG hTl HR HI HC HBL HB2
      cases wv with
      | true =>
        go_upto_region 11 with (go_at_call 23; (try rw [show (Value.slice AT D.length cT) = .slice AT T.length cT by rw [HTl.out]]); refine (slabvaultlaw13_wide.calls k AT cT T true _ HT.out HTc.out HW.out).mono ?_; rintro e_ w' ⟨rfl, ⟨n1, rfl⟩⟩)
        have HBW := Aside0.mk (pw_below_drewN (Below.refl wr.heap.size wr) n1)
        have HN := Aside0.mk (caseAt_below HCw.out HBW.out)
        clear HCw
        have HCw := HN
        clear HN
        have HN := Aside0.mk (Kd.C_below HT.out HBW.out)
        clear HT
        have HT := HN
        clear HN
        have HN := Aside0.mk (below_step HBB.out HBW.out)
        clear HBB HBW
        have HBB := HN
        clear HN
        generalize wr.drewN n1 = wa at HCw HT HBB ⊢
        go_wp2_with (go_at_call 14; (with_reducible refine (slabvaultlaw13_lives.calls true _ rfl).mono ?_); rintro e_ wE ⟨rfl, hb⟩; have HBE := Aside0.mk (below_step HBB.out hb); clear hb)
        go_ret
        exact ⟨rfl, HBE.out⟩
      | false =>
        go_upto_region 12 with (go_at_call 23; (try rw [show (Value.slice AT D.length cT) = .slice AT T.length cT by rw [HTl.out]]); refine (slabvaultlaw13_wide.calls k AT cT T false _ HT.out HTc.out HW.out).mono ?_; rintro e_ w' ⟨rfl, ⟨n1, rfl⟩⟩)
        have HBW := Aside0.mk (pw_below_drewN (Below.refl wr.heap.size wr) n1)
        have HN := Aside0.mk (caseAt_below HCw.out HBW.out)
        clear HCw
        have HCw := HN
        clear HN
        have HN := Aside0.mk (Kd.C_below HT.out HBW.out)
        clear HT
        have HT := HN
        clear HN
        have HN := Aside0.mk (below_step HBB.out HBW.out)
        clear HBB HBW
        have HBB := HN
        clear HN
        generalize wr.drewN n1 = wa at HCw HT HBB ⊢
        obtain ⟨r, e, hr1, hr2⟩ := HRS.out (by first | rfl | trivial)
        have HR1 := Aside0.mk hr1
        have HR2 := Aside0.mk hr2
        clear hr1 hr2 HRS HW
        obtain ⟨b0, b1, b2, b3, b4, b5⟩ := caseAt_cells HCw.out
        go_upto_region 13 with (go_at_call 21; (try rw [show (Value.slice AT D.length cT) = .slice AT T.length cT by rw [HTl.out]]); refine (grid_Resize.calls k A0 c0 X z A2 c2 D AT cT T A5 c5 L r e _ HCw.out.r0 HCw.out.l0 HCw.out.r2 HCw.out.l2 HT.out HTc.out HCw.out.r5 HCw.out.l5 HR1.out).mono ?_; rintro e_ wb ⟨v_, rfl, ho, hb⟩; obtain ⟨q_, ho, hq⟩ := ownB_at ho; obtain ⟨Bx, dx, rfl, hd, hcx⟩ := ownAt_slice ho; have HXx := Aside0.mk hcx; have HLx := Aside0.mk hd; have HBW := Aside0.mk hb; clear ho hq hd hcx hb)
        clear b0 b1 b2 b3 b4 b5
        have HN := Aside0.mk (caseAt_below HCw.out HBW.out)
        clear HCw
        have HCw := HN
        clear HN
        have HN := Aside0.mk (Kd.C_below HT.out HBW.out)
        clear HT
        have HT := HN
        clear HN
        have HN := Aside0.mk (below_step HBB.out HBW.out)
        clear HBB HBW
        have HBB := HN
        clear HN
        rcases HR2.out with ⟨he, hr0⟩ | ⟨he, h2, n, ne, h3, h4⟩
        · subst hr0
          have e1 : (e == 0) = false := by simpa using he
          have e2 : (e != 0) = true := by simpa using he
          have e3 : (e = 0) = False := eq_false he
          clear HR1 HR2 he
          simp only [List.length_nil] at *
          go_wp2_with (go_at_call 14; (with_reducible refine (slabvaultlaw13_lives.calls true _ rfl).mono ?_); rintro e_ wE ⟨rfl, hb⟩; have HBE := Aside0.mk (below_step HBB.out hb); clear hb)
          go_ret
          exact ⟨rfl, HBE.out⟩
        · subst he
          have H2 := Aside0.mk h2
          have H3 := Aside0.mk h3
          have H4 := Aside0.mk h4
          clear h2 h3 h4 HR1 HR2
          obtain ⟨b0, b1, b2, b3, b4, b5⟩ := caseAt_cells HCw.out
          go_upto_region 16 with (go_at_call 21; (try rw [show (Value.slice AT D.length cT) = .slice AT T.length cT by rw [HTl.out]]); refine (grid_Resize.calls k Bx dx r z AT cT T A2 c2 D A5 c5 L X 0 _ HXx.out HLx.out HT.out HTc.out HCw.out.r2 HCw.out.l2 HCw.out.r5 HCw.out.l5 H2.out).mono ?_; rintro e_ wc ⟨v_, rfl, ho, hb⟩; obtain ⟨q_, ho, hq⟩ := ownB_at ho; obtain ⟨By, dy, rfl, hd, hcx⟩ := ownAt_slice ho; have HXy := Aside0.mk hcx; have HBW := Aside0.mk hb; clear ho hq hd hcx hb)
          clear b0 b1 b2 b3 b4 b5
          have HN := Aside0.mk (caseAt_below HCw.out HBW.out)
          clear HCw
          have HCw := HN
          clear HN
          have HN := Aside0.mk (Kd.C_below HT.out HBW.out)
          clear HT
          have HT := HN
          clear HN
          have HN := Aside0.mk (Kd.C_below HXx.out HBW.out)
          clear HXx
          have HXx := HN
          clear HN
          have HN := Aside0.mk (below_step HBB.out HBW.out)
          clear HBB HBW
          have HBB := HN
          clear HN
          go_upto_region 17 with (go_at_call 24; (try rw [show (Value.slice AT D.length cT) = .slice AT T.length cT by rw [HTl.out]]); refine (slabvaultref12_Elements.calls k AT cT T n ne _ HT.out HTc.out H3.out).mono ?_; rintro e_ w' ⟨rfl, ⟨n2, rfl⟩⟩)
          have HBW := Aside0.mk (pw_below_drewN (Below.refl wc.heap.size wc) n2)
          have HN := Aside0.mk (caseAt_below HCw.out HBW.out)
          clear HCw
          have HCw := HN
          clear HN
          have HN := Aside0.mk (Kd.C_below HT.out HBW.out)
          clear HT
          have HT := HN
          clear HN
          have HN := Aside0.mk (Kd.C_below HXx.out HBW.out)
          clear HXx
          have HXx := HN
          clear HN
          have HN := Aside0.mk (Kd.C_below HXy.out HBW.out)
          clear HXy
          have HXy := HN
          clear HN
          have HN := Aside0.mk (below_step HBB.out HBW.out)
          clear HBB HBW
          have HBB := HN
          clear HN
          generalize wc.drewN n2 = wd at HCw HT HXx HXy HBB ⊢
          obtain ⟨b0, b1, b2, b3, b4, b5⟩ := caseAt_cells HCw.out
          have hs1 := Kd.C_string (P := Try.prog) (A := By) (c := dy) Try.underlying31 Try.underlying5 Try.underlying9 HXy.out
          have hs2 := Kd.C_string (P := Try.prog) (A := A0) (c := c0) Try.underlying31 Try.underlying5 Try.underlying9 HCw.out.r0
          generalize strOfNums X = sX at hs1 hs2
          have l1 : ((r.length : Int) == wrap64 (n * z)) = true := by simpa using H4.out
          have l2 : ((r.length : Int) = wrap64 (n * z)) = True := eq_true H4.out
          go_wp2_with (go_at_call 14; (with_reducible refine (slabvaultlaw13_lives.calls true _ rfl).mono ?_); rintro e_ wE ⟨rfl, hb⟩; have HBE := Aside0.mk (below_step HBB.out hb); clear hb)
          go_ret
          exact ⟨rfl, HBE.out⟩
    have x1 : decide ((i : Int) < (D.length : Int)) = true := decide_eq_true (by omega)
    have x2 : (i < D.length) = True := eq_true hi1
    have x3 : decide (i < D.length) = true := decide_eq_true hi1
    by_cases hi2 : i < M.length
    case neg =>
      have hi : ¬ (i < D.length ∧ i < M.length) := fun h => hi2 h.2
      have y1 : decide ((i : Int) < (M.length : Int)) = false := decide_eq_false (by omega)
      have y2 : (i < M.length) = False := eq_false hi2
      have y3 : decide (i < M.length) = false := decide_eq_false hi2
      clear d1 d2 hi1 hi2
      go_upto_region 10 with (fail)
      clear x1 x2 x3 y1 y2 y3
      have hT := grow_end HG.out hi
      obtain ⟨wv, hw, hrest⟩ := HP.out _ hT
      have HW := Aside0.mk hw
      have HRS := Aside0.mk hrest
      clear hw hrest hT HP
      have hTl := (Kd.R_reads' HR.out).1
      generalize pre ++ D.drop i = T at HR HW HRS hTl
      have HT := Aside0.mk (show Kd.C (Kd.int .i64) wr AT T.length T from (Kd.R_reads' HR.out).2.2)
      have HTl := Aside0.mk hTl
      have HTc := Aside0.mk (show T.length ≤ cT by rw [← hTl]; exact (Kd.R_reads' HR.out).2.1)
      have HCw := Aside0.mk (caseAt_below HC.out HBL.out)
      have HBB := Aside0.mk (below_step HB2.out HBL.out)
      clear HG hTl HR HI HC HBL HB2
      cases wv with
      | true =>
        go_upto_region 11 with (go_at_call 23; (try rw [show (Value.slice AT D.length cT) = .slice AT T.length cT by rw [HTl.out]]); refine (slabvaultlaw13_wide.calls k AT cT T true _ HT.out HTc.out HW.out).mono ?_; rintro e_ w' ⟨rfl, ⟨n1, rfl⟩⟩)
        have HBW := Aside0.mk (pw_below_drewN (Below.refl wr.heap.size wr) n1)
        have HN := Aside0.mk (caseAt_below HCw.out HBW.out)
        clear HCw
        have HCw := HN
        clear HN
        have HN := Aside0.mk (Kd.C_below HT.out HBW.out)
        clear HT
        have HT := HN
        clear HN
        have HN := Aside0.mk (below_step HBB.out HBW.out)
        clear HBB HBW
        have HBB := HN
        clear HN
        generalize wr.drewN n1 = wa at HCw HT HBB ⊢
        go_wp2_with (go_at_call 14; (with_reducible refine (slabvaultlaw13_lives.calls true _ rfl).mono ?_); rintro e_ wE ⟨rfl, hb⟩; have HBE := Aside0.mk (below_step HBB.out hb); clear hb)
        go_ret
        exact ⟨rfl, HBE.out⟩
      | false =>
        go_upto_region 12 with (go_at_call 23; (try rw [show (Value.slice AT D.length cT) = .slice AT T.length cT by rw [HTl.out]]); refine (slabvaultlaw13_wide.calls k AT cT T false _ HT.out HTc.out HW.out).mono ?_; rintro e_ w' ⟨rfl, ⟨n1, rfl⟩⟩)
        have HBW := Aside0.mk (pw_below_drewN (Below.refl wr.heap.size wr) n1)
        have HN := Aside0.mk (caseAt_below HCw.out HBW.out)
        clear HCw
        have HCw := HN
        clear HN
        have HN := Aside0.mk (Kd.C_below HT.out HBW.out)
        clear HT
        have HT := HN
        clear HN
        have HN := Aside0.mk (below_step HBB.out HBW.out)
        clear HBB HBW
        have HBB := HN
        clear HN
        generalize wr.drewN n1 = wa at HCw HT HBB ⊢
        obtain ⟨r, e, hr1, hr2⟩ := HRS.out (by first | rfl | trivial)
        have HR1 := Aside0.mk hr1
        have HR2 := Aside0.mk hr2
        clear hr1 hr2 HRS HW
        obtain ⟨b0, b1, b2, b3, b4, b5⟩ := caseAt_cells HCw.out
        go_upto_region 13 with (go_at_call 21; (try rw [show (Value.slice AT D.length cT) = .slice AT T.length cT by rw [HTl.out]]); refine (grid_Resize.calls k A0 c0 X z A2 c2 D AT cT T A5 c5 L r e _ HCw.out.r0 HCw.out.l0 HCw.out.r2 HCw.out.l2 HT.out HTc.out HCw.out.r5 HCw.out.l5 HR1.out).mono ?_; rintro e_ wb ⟨v_, rfl, ho, hb⟩; obtain ⟨q_, ho, hq⟩ := ownB_at ho; obtain ⟨Bx, dx, rfl, hd, hcx⟩ := ownAt_slice ho; have HXx := Aside0.mk hcx; have HLx := Aside0.mk hd; have HBW := Aside0.mk hb; clear ho hq hd hcx hb)
        clear b0 b1 b2 b3 b4 b5
        have HN := Aside0.mk (caseAt_below HCw.out HBW.out)
        clear HCw
        have HCw := HN
        clear HN
        have HN := Aside0.mk (Kd.C_below HT.out HBW.out)
        clear HT
        have HT := HN
        clear HN
        have HN := Aside0.mk (below_step HBB.out HBW.out)
        clear HBB HBW
        have HBB := HN
        clear HN
        rcases HR2.out with ⟨he, hr0⟩ | ⟨he, h2, n, ne, h3, h4⟩
        · subst hr0
          have e1 : (e == 0) = false := by simpa using he
          have e2 : (e != 0) = true := by simpa using he
          have e3 : (e = 0) = False := eq_false he
          clear HR1 HR2 he
          simp only [List.length_nil] at *
          go_wp2_with (go_at_call 14; (with_reducible refine (slabvaultlaw13_lives.calls true _ rfl).mono ?_); rintro e_ wE ⟨rfl, hb⟩; have HBE := Aside0.mk (below_step HBB.out hb); clear hb)
          go_ret
          exact ⟨rfl, HBE.out⟩
        · subst he
          have H2 := Aside0.mk h2
          have H3 := Aside0.mk h3
          have H4 := Aside0.mk h4
          clear h2 h3 h4 HR1 HR2
          obtain ⟨b0, b1, b2, b3, b4, b5⟩ := caseAt_cells HCw.out
          go_upto_region 16 with (go_at_call 21; (try rw [show (Value.slice AT D.length cT) = .slice AT T.length cT by rw [HTl.out]]); refine (grid_Resize.calls k Bx dx r z AT cT T A2 c2 D A5 c5 L X 0 _ HXx.out HLx.out HT.out HTc.out HCw.out.r2 HCw.out.l2 HCw.out.r5 HCw.out.l5 H2.out).mono ?_; rintro e_ wc ⟨v_, rfl, ho, hb⟩; obtain ⟨q_, ho, hq⟩ := ownB_at ho; obtain ⟨By, dy, rfl, hd, hcx⟩ := ownAt_slice ho; have HXy := Aside0.mk hcx; have HBW := Aside0.mk hb; clear ho hq hd hcx hb)
          clear b0 b1 b2 b3 b4 b5
          have HN := Aside0.mk (caseAt_below HCw.out HBW.out)
          clear HCw
          have HCw := HN
          clear HN
          have HN := Aside0.mk (Kd.C_below HT.out HBW.out)
          clear HT
          have HT := HN
          clear HN
          have HN := Aside0.mk (Kd.C_below HXx.out HBW.out)
          clear HXx
          have HXx := HN
          clear HN
          have HN := Aside0.mk (below_step HBB.out HBW.out)
          clear HBB HBW
          have HBB := HN
          clear HN
          go_upto_region 17 with (go_at_call 24; (try rw [show (Value.slice AT D.length cT) = .slice AT T.length cT by rw [HTl.out]]); refine (slabvaultref12_Elements.calls k AT cT T n ne _ HT.out HTc.out H3.out).mono ?_; rintro e_ w' ⟨rfl, ⟨n2, rfl⟩⟩)
          have HBW := Aside0.mk (pw_below_drewN (Below.refl wc.heap.size wc) n2)
          have HN := Aside0.mk (caseAt_below HCw.out HBW.out)
          clear HCw
          have HCw := HN
          clear HN
          have HN := Aside0.mk (Kd.C_below HT.out HBW.out)
          clear HT
          have HT := HN
          clear HN
          have HN := Aside0.mk (Kd.C_below HXx.out HBW.out)
          clear HXx
          have HXx := HN
          clear HN
          have HN := Aside0.mk (Kd.C_below HXy.out HBW.out)
          clear HXy
          have HXy := HN
          clear HN
          have HN := Aside0.mk (below_step HBB.out HBW.out)
          clear HBB HBW
          have HBB := HN
          clear HN
          generalize wc.drewN n2 = wd at HCw HT HXx HXy HBB ⊢
          obtain ⟨b0, b1, b2, b3, b4, b5⟩ := caseAt_cells HCw.out
          have hs1 := Kd.C_string (P := Try.prog) (A := By) (c := dy) Try.underlying31 Try.underlying5 Try.underlying9 HXy.out
          have hs2 := Kd.C_string (P := Try.prog) (A := A0) (c := c0) Try.underlying31 Try.underlying5 Try.underlying9 HCw.out.r0
          generalize strOfNums X = sX at hs1 hs2
          have l1 : ((r.length : Int) == wrap64 (n * z)) = true := by simpa using H4.out
          have l2 : ((r.length : Int) = wrap64 (n * z)) = True := eq_true H4.out
          go_wp2_with (go_at_call 14; (with_reducible refine (slabvaultlaw13_lives.calls true _ rfl).mono ?_); rintro e_ wE ⟨rfl, hb⟩; have HBE := Aside0.mk (below_step HBB.out hb); clear hb)
          go_ret
          exact ⟨rfl, HBE.out⟩
    have y1 : decide ((i : Int) < (M.length : Int)) = true := decide_eq_true (by omega)
    have y2 : (i < M.length) = True := eq_true hi2
    have y3 : decide (i < M.length) = true := decide_eq_true hi2
    have p1 : (0 ≤ (i : Int)) = True := eq_true (by omega)
    have hlen : (pre ++ D.drop i).length = D.length := by have := HI.out; simp; omega
    obtain ⟨g, cg, eo, gb, gl, cl, HGf⟩ := Kd.R_form HR.out (by omega)
    injection eo with ea_ en_ ec_
    subst ea_
    subst ec_
    clear en_
    obtain ⟨hx0, hfz⟩ := Kd.R_celln (0 : Int) HR.out (i : Int) (by omega) (by omega)
    rw [Int.toNat_natCast] at hx0 hfz
    have hx := (show wr.cell? ⟨g, i, none⟩ = some (.int .i64 (rd (pre ++ D.drop i) (i : Int))) from hx0)
    clear hx0
    rw [mix_at HI.out.2.2 hi1] at hx
    obtain ⟨adM, eM, hm⟩ := Kd.at_int (Kd.C_below HM.out HBL.out) (i : Int) (by omega) (by omega)
    cases eM
    rw [Int.toNat_natCast] at hm
    have hm0 : 0 ≤ rd M (i : Int) := by
      have : rd M (i : Int) = M[i] := by simp [rd, hi2]
      rw [this]
      exact HM0.out _ (List.getElem_mem hi2)
    have hmore := grow_more HG.out hi1 hi2
    have hMi : M[i] = rd M (i : Int) := by simp [rd, hi2]
    rw [hMi] at hmore
    generalize hd : D[i] = d at hx hmore
    generalize rd M (i : Int) = m at hm hm0 hmore
    have HMO := Aside0.mk hmore
    have HI12 := Aside0.mk (show i < D.length ∧ i < M.length from ⟨hi1, hi2⟩)
    have HGB := Aside0.mk gb
    clear hmore hMi hd hlen gb gl HGf d1 d2 hi1 hi2
    by_cases c1 : d < 0
    · have e1 : decide (d < 0) = true := decide_eq_true c1
      have f1 : (d < 0) = True := eq_true c1
      have HBB := Aside0.mk (below_step HB2.out HBL.out)
      clear c1
      go_wp2_with (go_at_call 14; (with_reducible refine (slabvaultlaw13_lives.calls true _ rfl).mono ?_); rintro e_ wE ⟨rfl, hb⟩; have HBE := Aside0.mk (below_step HBB.out hb); clear hb)
      go_ret
      exact ⟨rfl, HBE.out⟩
    have e1 : decide (d < 0) = false := decide_eq_false c1
    have f1 : (d < 0) = False := eq_false c1
    by_cases c2 : 1048576 < d
    · have e2 : decide (d > 1048576) = true := decide_eq_true c2
      have e3 : decide (1048576 < d) = true := decide_eq_true c2
      have f2 : (1048576 < d) = True := eq_true c2
      have HBB := Aside0.mk (below_step HB2.out HBL.out)
      clear c1 c2
      go_wp2_with (go_at_call 14; (with_reducible refine (slabvaultlaw13_lives.calls true _ rfl).mono ?_); rintro e_ wE ⟨rfl, hb⟩; have HBE := Aside0.mk (below_step HBB.out hb); clear hb)
      go_ret
      exact ⟨rfl, HBE.out⟩
    have e2 : decide (d > 1048576) = false := decide_eq_false c2
    have e3 : decide (1048576 < d) = false := decide_eq_false c2
    have f2 : (1048576 < d) = False := eq_false c2
    have HMO2 := Aside0.mk (HMO.out (by rintro (h | h) <;> contradiction))
    go_upto_region 9 with (fail)
    have m1 : Int.tmod m 4 = m % 4 := Int.tmod_eq_emod_of_nonneg hm0
    have m2 : wrap64 (m % 4) = m % 4 := by unfold wrap64; omega
    have m3 : wrap64 (d + m % 4) = d + m % 4 := by unfold wrap64; omega
    have m4 : IntKind.u64.wrap (m % 4) = m % 4 := by simp [IntKind.wrap, IntKind.signed, IntKind.bits]; omega
    clear HMO c1 c2 e1 e2 e3 f1 f2 x1 x3 y1 y3
    refine start_ (n := 15) (S := fun W' => W'.cell? ⟨g, i, none⟩ = some (.int .i64 d) ∧ W'.cell? (adM.add i) = some (.int .u64 m)) (ds := [14]) #[false, false, false, false, false, false, false, false, false, false, false, false, false, false, false] (by kernel_rfl) rfl rfl ⟨hx, hm⟩ (fun hHeld => ?_)
    refine pure_ (i := 0) (N := some 45) (v := ?_) (a' := ?_) #[true, false, false, false, false, false, false, false, false, false, false, false, false, false, false] rfl rfl (by kernel_rfl) (fun _ _ _ h => h) (Or.inl ⟨by rfl, ?_⟩) ?_ ?_
    rotate_left
    · intro w'
      go_simp
      with_reducible rfl
    rotate_left
    · simp only [Act.put, List.setIfInBounds_toArray, List.set_cons_zero, List.set_cons_succ, i64_w, i32_w]
      rfl
    refine pure_ (i := 1) (N := some 46) (v := ?_) (a' := ?_) #[true, true, false, false, false, false, false, false, false, false, false, false, false, false, false] rfl rfl (by kernel_rfl) (fun _ _ _ h => h) (Or.inl ⟨by rfl, ?_⟩) ?_ ?_
    rotate_left
    · intro w'
      go_simp
      with_reducible rfl
    rotate_left
    · simp only [Act.put, List.setIfInBounds_toArray, List.set_cons_zero, List.set_cons_succ, i64_w, i32_w]
      rfl
    refine pure_ (i := 2) (N := some 47) (v := ?_) (a' := ?_) #[true, true, true, false, false, false, false, false, false, false, false, false, false, false, false] rfl rfl (by kernel_rfl) (fun _ _ _ h => h) (Or.inl ⟨by rfl, ?_⟩) ?_ ?_
    rotate_left
    · intro w'
      go_simp
      with_reducible rfl
    rotate_left
    · simp only [Act.put, List.setIfInBounds_toArray, List.set_cons_zero, List.set_cons_succ, i64_w, i32_w]
      rfl
    refine pure_ (i := 3) (N := some 48) (v := ?_) (a' := ?_) #[true, true, true, true, false, false, false, false, false, false, false, false, false, false, false] rfl rfl (by kernel_rfl) (fun _ _ _ h => h) (Or.inl ⟨by rfl, ?_⟩) ?_ ?_
    rotate_left
    · intro w'
      go_simp
      with_reducible rfl
    rotate_left
    · simp only [Act.put, List.setIfInBounds_toArray, List.set_cons_zero, List.set_cons_succ, i64_w, i32_w]
      rfl
    refine pure_ (i := 4) (N := some 49) (v := ?_) (a' := ?_) #[true, true, true, true, true, false, false, false, false, false, false, false, false, false, false] rfl rfl (by kernel_rfl) (fun _ _ _ h => h) (Or.inl ⟨by rfl, ?_⟩) ?_ ?_
    rotate_left
    · intro w'
      go_simp
      with_reducible rfl
    rotate_left
    · simp only [Act.put, List.setIfInBounds_toArray, List.set_cons_zero, List.set_cons_succ, i64_w, i32_w]
      rfl
    refine take_ (i := 5) (N := some 50) (v := ?_) (a' := ?_) #[true, true, true, true, true, true, false, false, false, false, false, false, false, false, false] rfl rfl (by kernel_rfl) (fun _ _ _ h => h) (Or.inl ⟨by rfl, ?_⟩) hHeld ?_ ?_
    rotate_left
    · rintro w' ⟨hto_, hm_⟩
      go_simp
      with_reducible rfl
    rotate_left
    · simp only [Act.put, List.setIfInBounds_toArray, List.set_cons_zero, List.set_cons_succ, i64_w, i32_w]
      rfl
    refine pure_ (i := 6) (N := some 51) (v := ?_) (a' := ?_) #[true, true, true, true, true, true, true, false, false, false, false, false, false, false, false] rfl rfl (by kernel_rfl) (fun _ _ _ h => h) (Or.inl ⟨by rfl, ?_⟩) ?_ ?_
    rotate_left
    · intro w'
      go_simp
      with_reducible rfl
    rotate_left
    · simp only [Act.put, List.setIfInBounds_toArray, List.set_cons_zero, List.set_cons_succ, i64_w, i32_w]
      rfl
    refine pure_ (i := 7) (N := some 52) (v := ?_) (a' := ?_) #[true, true, true, true, true, true, true, true, false, false, false, false, false, false, false] rfl rfl (by kernel_rfl) (fun _ _ _ h => h) (Or.inl ⟨by rfl, ?_⟩) ?_ ?_
    rotate_left
    · intro w'
      go_simp
      with_reducible rfl
    rotate_left
    · simp only [Act.put, List.setIfInBounds_toArray, List.set_cons_zero, List.set_cons_succ, i64_w, i32_w]
      rfl
    refine pure_ (i := 8) (N := some 53) (v := ?_) (a' := ?_) #[true, true, true, true, true, true, true, true, true, false, false, false, false, false, false] rfl rfl (by kernel_rfl) (fun _ _ _ h => h) (Or.inl ⟨by rfl, ?_⟩) ?_ ?_
    rotate_left
    · intro w'
      go_simp
      with_reducible rfl
    rotate_left
    · simp only [Act.put, List.setIfInBounds_toArray, List.set_cons_zero, List.set_cons_succ, i64_w, i32_w]
      rfl
    refine take_ (i := 9) (N := some 54) (v := ?_) (a' := ?_) #[true, true, true, true, true, true, true, true, true, true, false, false, false, false, false] rfl rfl (by kernel_rfl) (fun _ _ _ h => h) (Or.inl ⟨by rfl, ?_⟩) hHeld ?_ ?_
    rotate_left
    · rintro w' ⟨hto_, hm_⟩
      go_simp
      with_reducible rfl
    rotate_left
    · simp only [Act.put, List.setIfInBounds_toArray, List.set_cons_zero, List.set_cons_succ, i64_w, i32_w]
      rfl
    refine pure_ (i := 10) (N := some 55) (v := ?_) (a' := ?_) #[true, true, true, true, true, true, true, true, true, true, true, false, false, false, false] rfl rfl (by kernel_rfl) (fun _ _ _ h => h) (Or.inl ⟨by rfl, ?_⟩) ?_ ?_
    rotate_left
    · intro w'
      go_simp
      with_reducible rfl
    rotate_left
    · simp only [Act.put, List.setIfInBounds_toArray, List.set_cons_zero, List.set_cons_succ, i64_w, i32_w]
      rfl
    refine pure_ (i := 11) (N := some 56) (v := ?_) (a' := ?_) #[true, true, true, true, true, true, true, true, true, true, true, true, false, false, false] rfl rfl (by kernel_rfl) (fun _ _ _ h => h) (Or.inl ⟨by rfl, ?_⟩) ?_ ?_
    rotate_left
    · intro w'
      go_simp
      with_reducible rfl
    rotate_left
    · simp only [Act.put, List.setIfInBounds_toArray, List.set_cons_zero, List.set_cons_succ, i64_w, i32_w]
      rfl
    refine pure_ (i := 12) (N := some 57) (v := ?_) (a' := ?_) #[true, true, true, true, true, true, true, true, true, true, true, true, true, false, false] rfl rfl (by kernel_rfl) (fun _ _ _ h => h) (Or.inl ⟨by rfl, ?_⟩) ?_ ?_
    rotate_left
    · intro w'
      go_simp
      with_reducible rfl
    rotate_left
    · simp only [Act.put, List.setIfInBounds_toArray, List.set_cons_zero, List.set_cons_succ, i64_w, i32_w]
      rfl
    refine pure_ (i := 13) (N := some 58) (v := ?_) (a' := ?_) #[true, true, true, true, true, true, true, true, true, true, true, true, true, true, false] rfl rfl (by kernel_rfl) (fun _ _ _ h => h) (Or.inl ⟨by rfl, ?_⟩) ?_ ?_
    rotate_left
    · intro w'
      go_simp
      with_reducible rfl
    rotate_left
    · simp only [Act.put, List.setIfInBounds_toArray, List.set_cons_zero, List.set_cons_succ, i64_w, i32_w]
      rfl
    refine last_ (i := 14) (N := none) #[true, true, true, true, true, true, true, true, true, true, true, true, true, true, true] rfl rfl (by kernel_rfl) (by decide) (fun K hK => ?_)
    refine skip_ (w1 := ?_) (by rfl) rfl ?_ ?_
    rotate_left
    · go_simp
      rfl
    refine hK.out _ _ ?_
    clear hK K
    refine done_ (by kernel_rfl) ?_
    go_wp2
    have hput := Kd.R_putn (Kd.R_drew HR.out) (i : Int) (d + m % 4)
    rw [Int.toNat_natCast, mix_put HI.out.2.2 HI12.out.1] at hput
    go_roundg (gk - 1)
    case measure => have := HI.out; have := HI12.out; omega
    case rel => exact ⟨i + 1, pre ++ [d + m % 4], by have := HI12.out; have := HD8.out; rw [show wrap64 ((i : Int) + 1) = ((i + 1 : Nat) : Int) by unfold wrap64; omega], ⟨by have := HI12.out; omega, by have := HI.out; have := HI12.out; omega, by have := HI.out; simp; omega⟩, HMO2, ⟨hput⟩, ⟨below_set (below_drew1 HBL.out) HGB.out⟩⟩
end
end Go.Proofs.Ytjbjofmcmjojlab.Wk
end
section
namespace Go.Proofs.Ytjbjofmcmjojlab.Wk
open Go.RowKit Go.Proofs.YtjbjofmcmjojlabW.PrintWords Go.Proofs.YtjbjofmcmjojlabW.PrintLast Go.Proofs.YtjbjofmcmjojlabW.PrintMore
attribute [local go_sem] max2_int min2_int max_two min_two max_three min_three max_four min_four
set_option linter.unusedVariables false
set_option linter.unusedSimpArgs false
def slabvaultlaw13_ints.l0 : Nat → List Int → List Int → Int → Option (Bool)
  | 0, _, _, _ => none
  | k + 1, x0, x1, x5 => if x5 < (x0.length : Int) then (if 0 ≤ x5 then (if x5 < (x1.length : Int) then (if (rd x0 x5) = (rd x1 x5) then (slabvaultlaw13_ints.l0 k x0 x1 (wrap64 (x5 + 1))) else (some false)) else (none)) else (none)) else (some true)
def slabvaultlaw13_ints.f (k : Nat) (l0 : List Int) (l1 : List Int) : Option (Bool) := if (l0.length : Int) = (l1.length : Int) then (slabvaultlaw13_ints.l0 k l0 l1 0) else (some false)
end Go.Proofs.Ytjbjofmcmjojlab.Wk
end
section
namespace Go.Proofs.Ytjbjofmcmjojlab.Wk
open Go.RowKit Go.Proofs.YtjbjofmcmjojlabW.PrintWords Go.Proofs.YtjbjofmcmjojlabW.PrintLast Go.Proofs.YtjbjofmcmjojlabW.PrintMore
attribute [local go_sem] max2_int min2_int max_two min_two max_three min_three max_four min_four
set_option linter.unusedVariables false
set_option linter.unusedSimpArgs false
def slabvaultref13_Fit.l0 : Nat → List Int → Int → Option (Int)
  | 0, _, _ => none
  | k + 1, x1, x7 => if x7 < (x1.length : Int) then (if 0 ≤ x7 then (if (rd x1 x7) < 1 then (some 2) else (if (rd x1 x7) > 1048576 then (some 2) else (slabvaultref13_Fit.l0 k x1 (wrap64 (x7 + 1))))) else (none)) else ((slabvaultref12_Elements.f k x1).bind fun bt147 => (some bt147.2))
def slabvaultref13_Fit.f (k : Nat) (l0 : List Int) (l1 : List Int) : Option (Int) := (slabvaultref12_Elements.f k l0).bind fun bt143 => (if bt143.2 = 0 then (if (l1.length : Int) = (l0.length : Int) then (slabvaultref13_Fit.l0 k l1 0) else (some 2)) else (some bt143.2))
end Go.Proofs.Ytjbjofmcmjojlab.Wk
end
section
namespace Go.Proofs.Ytjbjofmcmjojlab.Wk
open Go.RowKit Go.Proofs.YtjbjofmcmjojlabW.PrintWords Go.Proofs.YtjbjofmcmjojlabW.PrintLast Go.Proofs.YtjbjofmcmjojlabW.PrintMore
attribute [local go_sem] max2_int min2_int max_two min_two max_three min_three max_four min_four
set_option linter.unusedVariables false
set_option linter.unusedSimpArgs false
def slabvaultref13_right.l0 : Nat → List Int → Int → Int → Option (Bool)
  | 0, _, _, _ => none
  | k + 1, x0, x1, x5 => if x5 < x1 then (if 0 ≤ x5 then (if x5 < (x0.length : Int) then (if (rd x0 x5) < 0 then (some false) else (slabvaultref13_right.l0 k x0 x1 (wrap64 (x5 + 1)))) else (none)) else (none)) else (some true)
def slabvaultref13_right.f (k : Nat) (l0 : List Int) (a1 : Int) : Option (Bool) := if (l0.length : Int) = a1 then (slabvaultref13_right.l0 k l0 a1 0) else (some false)
end Go.Proofs.Ytjbjofmcmjojlab.Wk
end
section
namespace Go.Proofs.Ytjbjofmcmjojlab.Wk
open Go.RowKit Go.Proofs.YtjbjofmcmjojlabW.PrintWords Go.Proofs.YtjbjofmcmjojlabW.PrintLast Go.Proofs.YtjbjofmcmjojlabW.PrintMore
attribute [local go_sem] max2_int min2_int max_two min_two max_three min_three max_four min_four
set_option linter.unusedVariables false
set_option linter.unusedSimpArgs false
def slabvaultref13_Clip.l0 : Nat → List Int → List Int → List Int → List Int → List Int → Int → Option (List Int × List Int × Int)
  | 0, _, _, _, _, _, _ => none
  | k + 1, x0, x1, x2, x10, x11, x12 => if x12 < (x0.length : Int) then (if 0 ≤ x12 then (if x12 < (x2.length : Int) then (if (rd x2 x12) ≤ (rd x0 x12) then (if x12 < (x1.length : Int) then (if (wrap64 ((rd x2 x12) * (rd x1 x12))) < (rd x0 x12) then (if x10.length < 17592186044416 then (if x11.length < 17592186044416 then (slabvaultref13_Clip.l0 k x0 x1 x2 (x10 ++ [wrap64 ((rd x2 x12) * (rd x1 x12))]) (x11 ++ [mn (rd x1 x12) (wrap64 ((rd x0 x12) - (wrap64 ((rd x2 x12) * (rd x1 x12)))))]) (wrap64 (x12 + 1))) else (none)) else (none)) else (if x10.length < 17592186044416 then (if x11.length < 17592186044416 then (slabvaultref13_Clip.l0 k x0 x1 x2 (x10 ++ [rd x0 x12]) (x11 ++ [mn (rd x1 x12) (wrap64 ((rd x0 x12) - (rd x0 x12)))]) (wrap64 (x12 + 1))) else (none)) else (none))) else (none)) else (if x10.length < 17592186044416 then (if x12 < (x1.length : Int) then (if x11.length < 17592186044416 then (slabvaultref13_Clip.l0 k x0 x1 x2 (x10 ++ [rd x0 x12]) (x11 ++ [mn (rd x1 x12) (wrap64 ((rd x0 x12) - (rd x0 x12)))]) (wrap64 (x12 + 1))) else (none)) else (none)) else (none))) else (none)) else (none)) else (some (x10, x11, 0))
def slabvaultref13_Clip.f (k : Nat) (l0 : List Int) (l1 : List Int) (l2 : List Int) : Option (List Int × List Int × Int) := (slabvaultref13_Fit.f k l0 l1).bind fun t188 => (if t188 = 0 then ((slabvaultref13_right.f k l2 (l0.length : Int)).bind fun t189 => (if t189 = true then (slabvaultref13_Clip.l0 k l0 l1 l2 ([] : List Int) ([] : List Int) 0) else (some (([] : List Int), ([] : List Int), 2)))) else (some (([] : List Int), ([] : List Int), t188)))
def slabvaultref13_Clip.T11 : Bool × List (List Nat × List Nat) := (true, [([], []), ([], []), ([0, 1], [0, 1]), ([2], [2]), ([], []), ([], []), ([4, 5], [4, 5]), ([6], [6]), ([3, 7], [3, 7]), ([8], [8]), ([9], [9]), ([9], [9]), ([10, 11, 9], [9, 10, 11]), ([12, 9], [9, 12]), ([9], [9]), ([9], [9]), ([14, 15, 9], [9, 14, 15]), ([16, 9], [9, 16]), ([13, 17, 9], [9, 13, 17]), ([9], [9]), ([9], [9]), ([19, 20, 9], [9, 19, 20]), ([21, 9], [9, 21]), ([18, 22, 9], [9, 18, 22]), ([9, 23], [9, 23])])
def slabvaultref13_Clip.B11 : List Nat := [0, 0, 3, 7, 0, 0, 48, 112, 255, 511, 1023, 1023, 4095, 8191, 1023, 1023, 50175, 115711, 262143, 1023, 1023, 1573887, 3671039, 8388607, 16777215]
def slabvaultref13_Clip.T12 : Bool × List (List Nat × List Nat) := (true, [([], []), ([], []), ([0, 1], [0, 1]), ([2], [2]), ([], []), ([], []), ([4, 5], [4, 5]), ([6], [6]), ([3, 7], [3, 7]), ([8, 0, 1, 2, 3, 4, 5, 6, 7, 8], [8])])
def slabvaultref13_Clip.B12 : List Nat := [0, 0, 3, 7, 0, 0, 48, 112, 255, 511]
def slabvaultref13_Clip.T14 : Bool × List (List Nat × List Nat) := (true, [([], []), ([], []), ([], []), ([1, 2], [1, 2]), ([3], [3]), ([], []), ([], []), ([5, 6], [5, 6]), ([7], [7]), ([], []), ([8, 9], [8, 9]), ([4, 10], [4, 10]), ([11], [11]), ([0, 12], [0, 12]), ([13, 13, 0, 1, 2, 3, 4, 5, 6, 7, 8, 9, 10, 11, 12, 13], [0, 13])])
def slabvaultref13_Clip.B14 : List Nat := [0, 0, 0, 6, 14, 0, 0, 96, 224, 0, 992, 2046, 4094, 8191, 16383]
end Go.Proofs.Ytjbjofmcmjojlab.Wk
end
section
namespace Go.Proofs.Ytjbjofmcmjojlab.Wk
open Go.RowKit Go.Proofs.YtjbjofmcmjojlabW.PrintWords Go.Proofs.YtjbjofmcmjojlabW.PrintLast Go.Proofs.YtjbjofmcmjojlabW.PrintMore
attribute [local go_sem] max2_int min2_int max_two min_two max_three min_three max_four min_four
set_option linter.unusedVariables false
set_option linter.unusedSimpArgs false
def slabvaultlaw13_GridClips.f (k : Nat) (l0 : List Int) (l1 : List Int) (l2 : List Int) : Option (Bool) := (grid_Clip.f k l0 l1 l2).bind fun bt222 => ((slabvaultref13_Clip.f k l0 l1 l2).bind fun bt229 => ((slabvaultlaw13_ints.f k bt222.1 bt229.1).bind fun t236 => (if t236 = true then ((slabvaultlaw13_ints.f k bt222.2.1 bt229.2.1).bind fun t237 => (if t237 = true then (if bt222.2.2 = bt229.2.2 then ((slabvaultlaw13_lives.f).bind fun t238 => (some t238)) else (none)) else (none))) else (none))))
def slabvaultlaw13_GridClips.Pure : Prop := ∀ (l0 : List Int) (l1 : List Int) (l2 : List Int), l0.length ≤ maxLen → l0.length * 8 ≤ 140737488351232 → (∀ x ∈ l0, (Lit.int .i64 x).wf = true) → l1.length ≤ maxLen → l1.length * 8 ≤ 140737488351232 → (∀ x ∈ l1, (Lit.int .i64 x).wf = true) → l2.length ≤ maxLen → l2.length * 8 ≤ 140737488351232 → (∀ x ∈ l2, (Lit.int .i64 x).wf = true) → ∃ k, slabvaultlaw13_GridClips.f k l0 l1 l2 = some true
end Go.Proofs.Ytjbjofmcmjojlab.Wk
end
section
namespace Go.Proofs.Ytjbjofmcmjojlab.Pure
open Go.RowKit Go.Proofs.Ytjbjofmcmjojlab.Wk Go.Proofs.YtjbjofmcmjojlabW.PrintWords Go.Proofs.YtjbjofmcmjojlabW.PrintLast Go.Proofs.YtjbjofmcmjojlabW.PrintMore
set_option linter.unusedVariables false
set_option linter.unusedSimpArgs false
theorem wrap_up {i : Nat} {n : Nat} (h : i < n) (hn : n ≤ 9223372036854775807) : wrap64 ((i : Int) + 1) = ((i + 1 : Nat) : Int) := by unfold wrap64; omega
theorem rd_nat (l : List Int) (i : Nat) (h : i < l.length) : rd l (i : Int) = l[i] := by simp [rd, h]
def elemsT (l0 : List Int) : Int × Int := if 4 < l0.length ∨ l0.any badDim = true then (0, 2) else if l0.contains 0 = true then (0, 0) else prodLoop l0 l0.length 0 1
theorem elements_eq (l : List Int) : space_Elements.f l = some (elemsT l) := rfl
theorem ref_l2 (l : List Int) (hm : l.length ≤ 9223372036854775807) (hb : l.any badDim = false) : ∀ (d i : Nat) (n : Int), l.length - i = d → i ≤ l.length → 0 ≤ n → n ≤ 1048576 →
    Ev (fun k => slabvaultref12_Elements.l2 k l n i) (prodLoop l d i n) := by
  intro d
  induction d with
  | zero =>
    intro i n h hi _ _
    refine Ev.step (f := fun _ => some (n, 0)) (fun k => ?_) (Ev.now _)
    simp only [slabvaultref12_Elements.l2]
    rw [if_neg (by omega)]
  | succ d ih =>
    intro i n h hi h0 h1
    have hlt : i < l.length := by omega
    have hg := good_rd hb i hlt
    have hy1 : 0 ≤ n * rd l i := Int.mul_nonneg h0 hg.1
    have hy2 : n * rd l i ≤ 1048576 * 1048576 := Int.mul_le_mul h1 hg.2 hg.1 (by omega)
    have hw : wrap64 (n * rd l i) = n * rd l i := by unfold wrap64; omega
    by_cases hbig : n * rd l i > 1048576
    · refine Ev.step (f := fun _ => some (0, 3)) (fun k => ?_) (by rw [prodLoop, if_pos hbig]; exact Ev.now _)
      simp only [slabvaultref12_Elements.l2]
      rw [if_pos (by omega), if_pos (by omega), hw, if_pos hbig]
    · refine Ev.step (f := fun k => slabvaultref12_Elements.l2 k l (n * rd l i) ((i + 1 : Nat) : Int)) (fun k => ?_) (by rw [prodLoop, if_neg hbig]; exact ih (i + 1) _ (by omega) (by omega) hy1 (by omega))
      simp only [slabvaultref12_Elements.l2]
      rw [if_pos (by omega), if_pos (by omega), hw, if_neg hbig, wrap_up hlt hm]
theorem ref_l1 (l : List Int) (hm : l.length ≤ 9223372036854775807) (hb : l.any badDim = false) : ∀ (d i : Nat), l.length - i = d → i ≤ l.length →
    Ev (fun k => slabvaultref12_Elements.l1 k l 1 i) (if (l.drop i).contains 0 = true then (0, 0) else prodLoop l l.length 0 1) := by
  intro d
  induction d with
  | zero =>
    intro i h hi
    rw [List.drop_eq_nil_of_le (by omega)]
    refine Ev.step (f := fun k => slabvaultref12_Elements.l2 k l 1 0) (fun k => ?_) (ref_l2 l hm hb l.length 0 1 (by omega) (by omega) (by omega) (by omega))
    simp only [slabvaultref12_Elements.l1]
    rw [if_neg (by omega)]
  | succ d ih =>
    intro i h hi
    have hlt : i < l.length := by omega
    rw [List.drop_eq_getElem_cons hlt, List.contains_cons]
    have e := rd_nat l i hlt
    by_cases hz : rd l i = 0
    · refine Ev.step (f := fun _ => some (0, 0)) (fun k => ?_) (by rw [e] at hz; rw [hz]; exact Ev.now _)
      simp only [slabvaultref12_Elements.l1]
      rw [if_pos (by omega), if_pos (by omega), if_pos hz]
    · refine Ev.step (f := fun k => slabvaultref12_Elements.l1 k l 1 ((i + 1 : Nat) : Int)) (fun k => ?_) (by
        have : (0 == l[i]) = false := by
          rw [e] at hz
          exact beq_eq_false_iff_ne.2 (fun h0 => hz h0.symm)
        rw [this, Bool.false_or]
        exact ih (i + 1) (by omega) (by omega))
      simp only [slabvaultref12_Elements.l1]
      rw [if_pos (by omega), if_pos (by omega), if_neg hz, wrap_up hlt hm]
theorem ref_l0 (l : List Int) (hm : l.length ≤ 9223372036854775807) : ∀ (d i : Nat), l.length - i = d → i ≤ l.length → (l.take i).any badDim = false →
    Ev (fun k => slabvaultref12_Elements.l0 k l 1 i) (if (l.drop i).any badDim = true then (0, 2) else if l.contains 0 = true then (0, 0) else prodLoop l l.length 0 1) := by
  intro d
  induction d with
  | zero =>
    intro i h hi hb
    rw [List.drop_eq_nil_of_le (by omega)]
    rw [List.take_of_length_le (by omega)] at hb
    refine Ev.step (f := fun k => slabvaultref12_Elements.l1 k l 1 0) (fun k => ?_) (by
      have := ref_l1 l hm hb l.length 0 (by omega) (by omega)
      rw [List.drop_zero] at this
      rw [if_neg (by simp)]
      exact this)
    simp only [slabvaultref12_Elements.l0]
    rw [if_neg (by omega)]
  | succ d ih =>
    intro i h hi hb
    have hlt : i < l.length := by omega
    have e := rd_nat l i hlt
    rw [List.drop_eq_getElem_cons hlt, List.any_cons]
    by_cases h1 : rd l i < 0
    · refine Ev.step (f := fun _ => some (0, 2)) (fun k => ?_) (by
        have : badDim l[i] = true := by rw [e] at h1; simp [badDim, h1]
        rw [this]; exact Ev.now _)
      simp only [slabvaultref12_Elements.l0]
      rw [if_pos (by omega), if_pos (by omega), if_pos h1]
    · by_cases h2 : rd l i > 1048576
      · refine Ev.step (f := fun _ => some (0, 2)) (fun k => ?_) (by
          have : badDim l[i] = true := by rw [e] at h2; simp [badDim]; omega
          rw [this]; exact Ev.now _)
        simp only [slabvaultref12_Elements.l0]
        rw [if_pos (by omega), if_pos (by omega), if_neg h1, if_pos h2]
      · have hg : badDim l[i] = false := by rw [e] at h1 h2; simp [badDim]; omega
        refine Ev.step (f := fun k => slabvaultref12_Elements.l0 k l 1 ((i + 1 : Nat) : Int)) (fun k => ?_) (by
          rw [hg, Bool.false_or]
          exact ih (i + 1) (by omega) (by omega) (by rw [List.take_succ_eq_append_getElem hlt, List.any_append, hb]; simp [hg]))
        simp only [slabvaultref12_Elements.l0]
        rw [if_pos (by omega), if_pos (by omega), if_neg h1, if_neg h2, wrap_up hlt hm]
theorem refElements_ev (l : List Int) (hm : l.length ≤ 9223372036854775807) : Ev (fun k => slabvaultref12_Elements.f k l) (elemsT l) := by
  unfold elemsT
  by_cases h4 : 4 < l.length
  · rw [if_pos (.inl h4)]
    refine Ev.congr (f := fun _ => some (0, 2)) (fun k => ?_) (Ev.now _)
    unfold slabvaultref12_Elements.f
    rw [if_pos (by omega)]
  · refine Ev.congr (f := fun k => slabvaultref12_Elements.l0 k l 1 0) (fun k => ?_) ?_
    · unfold slabvaultref12_Elements.f
      rw [if_neg (by omega)]
    · have := ref_l0 l hm l.length 0 (by omega) (by omega) (by simp)
      simpa [h4] using this
def fitT (D H : List Int) : Int := if (elemsT D).2 = 0 then (if H.length = D.length then (if H.any badShape = true then 2 else (elemsT H).2) else 2) else (elemsT D).2
def rightT (c : List Int) (n : Nat) : Bool := decide (c.length = n) && !c.any negCoord
structure Good (D H : List Int) : Prop where
  len : D.length ≤ 4
  same : H.length = D.length
  dims : ∀ i : Nat, i < D.length → 0 ≤ rd D i ∧ rd D i ≤ 1048576
  shape : ∀ i : Nat, i < D.length → 1 ≤ rd H i ∧ rd H i ≤ 1048576
def clipAt (D H c : Int) : Int := if c * H < D then c * H else D
def clipS (D H c : List Int) (i : Nat) : List Int := (List.range' i (D.length - i)).map fun (d : Nat) => clipAt (rd D d) (rd H d) (rd c d)
def clipP (D H c : List Int) (i : Nat) : List Int := (List.range' i (D.length - i)).map fun (d : Nat) => mn (rd H d) (rd D d - clipAt (rd D d) (rd H d) (rd c d))
def clipT (D H c : List Int) : List Int × List Int × Int := if fitT D H = 0 then (if rightT c D.length = true then (clipS D H c 0, clipP D H c 0, 0) else ([], [], 2)) else ([], [], fitT D H)
end Go.Proofs.Ytjbjofmcmjojlab.Pure
end
section
namespace Go.Proofs.Ytjbjofmcmjojlab.Wk
open Go.RowKit Go.Proofs.YtjbjofmcmjojlabW.PrintWords Go.Proofs.YtjbjofmcmjojlabW.PrintLast Go.Proofs.YtjbjofmcmjojlabW.PrintMore
attribute [local go_sem] max2_int min2_int max_two min_two max_three min_three max_four min_four
set_option linter.unusedVariables false
set_option linter.unusedSimpArgs false
def slabvaultref13_Chunks.l0 : Nat → List Int → List Int → Int → Int → Option (Int × Int)
  | 0, _, _, _, _ => none
  | k + 1, x0, x1, x7, x8 => if x8 < (x0.length : Int) then (if 0 ≤ x8 then (if x8 < (x1.length : Int) then (if (rd x1 x8) = 0 then (none) else (slabvaultref13_Chunks.l0 k x0 x1 (wrap64 (x7 * (wrap64 (Int.tdiv (wrap64 ((wrap64 ((rd x0 x8) + (rd x1 x8))) - 1)) (rd x1 x8))))) (wrap64 (x8 + 1)))) else (none)) else (none)) else (some (x7, 0))
def slabvaultref13_Chunks.f (k : Nat) (l0 : List Int) (l1 : List Int) : Option (Int × Int) := (slabvaultref13_Fit.f k l0 l1).bind fun t149 => (if t149 = 0 then (slabvaultref13_Chunks.l0 k l0 l1 1 0) else (some (0, t149)))
end Go.Proofs.Ytjbjofmcmjojlab.Wk
end
section
namespace Go.Proofs.Ytjbjofmcmjojlab.Wk
open Go.RowKit Go.Proofs.YtjbjofmcmjojlabW.PrintWords Go.Proofs.YtjbjofmcmjojlabW.PrintLast Go.Proofs.YtjbjofmcmjojlabW.PrintMore
attribute [local go_sem] max2_int min2_int max_two min_two max_three min_three max_four min_four
set_option linter.unusedVariables false
set_option linter.unusedSimpArgs false
section
def ofLoop (A S : List Int) : Nat → Nat → List Int → List Int → List Int × List Int × Int
  | 0, _, x, y => (x, y, 0)
  | d + 1, i, x, y => if rd A i < 0 ∨ rd S i < 1 ∨ 1048576 < rd S i then ([], [], 2) else ofLoop A S d (i + 1) (x ++ [rd A i / rd S i]) (y ++ [rd A i % rd S i])
def grid_Of.f (l0 : List Int) (l1 : List Int) : Option (List Int × List Int × Int) :=
  if (∀ x ∈ l0, x ≤ 9223372036854775807) ∧ l0.length ≤ 9223372036854775807 ∧ l1.length ≤ 9223372036854775807 then some (if 4 < l0.length ∨ l0.length ≠ l1.length then ([], [], 2) else ofLoop l0 l1 l0.length 0 [] []) else none
end
end Go.Proofs.Ytjbjofmcmjojlab.Wk
end
section
namespace Go.Proofs.Ytjbjofmcmjojlab.Wk
open Go.RowKit Go.Proofs.YtjbjofmcmjojlabW.PrintWords Go.Proofs.YtjbjofmcmjojlabW.PrintLast Go.Proofs.YtjbjofmcmjojlabW.PrintMore
attribute [local go_sem] max2_int min2_int max_two min_two max_three min_three max_four min_four
set_option linter.unusedVariables false
set_option linter.unusedSimpArgs false
mutual
def slabvaultref13_Of.j0 : Nat → List Int → List Int → Bool → Option (List Int × List Int × Int)
  | 0, _, _, _ => none
  | k + 1, x0, x1, x19 => if x19 = true then (some (([] : List Int), ([] : List Int), 2)) else (slabvaultref13_Of.l0 k x0 x1 ([] : List Int) ([] : List Int) 0)
def slabvaultref13_Of.l0 : Nat → List Int → List Int → List Int → List Int → Int → Option (List Int × List Int × Int)
  | 0, _, _, _, _, _ => none
  | k + 1, x0, x1, x7, x8, x9 => if x9 < (x0.length : Int) then (if 0 ≤ x9 then (if (rd x0 x9) < 0 then (some (([] : List Int), ([] : List Int), 2)) else (if x9 < (x1.length : Int) then (if (rd x1 x9) < 1 then (some (([] : List Int), ([] : List Int), 2)) else (if (rd x1 x9) > 1048576 then (some (([] : List Int), ([] : List Int), 2)) else (if (rd x1 x9) = 0 then (none) else (if x7.length < 17592186044416 then (if x8.length < 17592186044416 then (slabvaultref13_Of.l0 k x0 x1 (x7 ++ [wrap64 (Int.tdiv (rd x0 x9) (rd x1 x9))]) (x8 ++ [Int.tmod (rd x0 x9) (rd x1 x9)]) (wrap64 (x9 + 1))) else (none)) else (none))))) else (none))) else (none)) else (some (x7, x8, 0))
end
def slabvaultref13_Of.f (k : Nat) (l0 : List Int) (l1 : List Int) : Option (List Int × List Int × Int) := if (l0.length : Int) > 4 then (slabvaultref13_Of.j0 k l0 l1 true) else (slabvaultref13_Of.j0 k l0 l1 ((l0.length : Int) != (l1.length : Int)))
def slabvaultref13_Of.T9 : Bool × List (List Nat × List Nat) := (true, [([], []), ([], []), ([], []), ([1, 2], [1, 2]), ([3], [3]), ([], []), ([], []), ([5, 6], [5, 6]), ([7], [7]), ([4, 8], [4, 8]), ([9], [9]), ([0, 10], [0, 10]), ([11, 11, 0, 1, 2, 3, 4, 5, 6, 7, 8, 9, 10, 11], [0, 11])])
def slabvaultref13_Of.B9 : List Nat := [0, 0, 0, 6, 14, 0, 0, 96, 224, 510, 1022, 2047, 4095]
def slabvaultref13_Of.T10 : Bool × List (List Nat × List Nat) := (true, [([], []), ([], []), ([], []), ([1, 2], [1, 2]), ([3], [3]), ([], []), ([], []), ([5, 6], [5, 6]), ([7], [7]), ([4, 8], [4, 8]), ([9], [9]), ([0, 10], [0, 10]), ([11, 11, 0, 1, 2, 3, 4, 5, 6, 7, 8, 9, 10, 11], [0, 11])])
def slabvaultref13_Of.B10 : List Nat := [0, 0, 0, 6, 14, 0, 0, 96, 224, 510, 1022, 2047, 4095]
end Go.Proofs.Ytjbjofmcmjojlab.Wk
end
section
namespace Go.Proofs.Ytjbjofmcmjojlab.Wk
open Go.RowKit Go.Proofs.YtjbjofmcmjojlabW.PrintWords Go.Proofs.YtjbjofmcmjojlabW.PrintLast Go.Proofs.YtjbjofmcmjojlabW.PrintMore
attribute [local go_sem] max2_int min2_int max_two min_two max_three min_three max_four min_four
set_option linter.unusedVariables false
set_option linter.unusedSimpArgs false
def slabvaultlaw13_GridCounts.f (k : Nat) (l0 : List Int) (l1 : List Int) (l2 : List Int) : Option (Bool) := (grid_Chunks.f k l0 l1).bind fun bt166 => ((slabvaultref13_Chunks.f k l0 l1).bind fun bt168 => ((grid_Of.f l2 l1).bind fun bt170 => ((slabvaultref13_Of.f k l2 l1).bind fun bt177 => (if bt166.1 = bt168.1 then (if bt166.2 = bt168.2 then ((slabvaultlaw13_ints.f k bt170.1 bt177.1).bind fun t184 => (if t184 = true then ((slabvaultlaw13_ints.f k bt170.2.1 bt177.2.1).bind fun t185 => (if t185 = true then (if bt170.2.2 = bt177.2.2 then ((slabvaultlaw13_lives.f).bind fun t186 => (some t186)) else (none)) else (none))) else (none))) else (none)) else (none)))))
def slabvaultlaw13_GridCounts.Pure : Prop := ∀ (l0 : List Int) (l1 : List Int) (l2 : List Int), l0.length ≤ maxLen → l0.length * 8 ≤ 140737488351232 → (∀ x ∈ l0, (Lit.int .i64 x).wf = true) → l1.length ≤ maxLen → l1.length * 8 ≤ 140737488351232 → (∀ x ∈ l1, (Lit.int .i64 x).wf = true) → l2.length ≤ maxLen → l2.length * 8 ≤ 140737488351232 → (∀ x ∈ l2, (Lit.int .i64 x).wf = true) → ∃ k, slabvaultlaw13_GridCounts.f k l0 l1 l2 = some true
end Go.Proofs.Ytjbjofmcmjojlab.Wk
end
section
namespace Go.Proofs.Ytjbjofmcmjojlab.Pure
open Go.RowKit Go.Proofs.Ytjbjofmcmjojlab.Wk Go.Proofs.YtjbjofmcmjojlabW.PrintWords Go.Proofs.YtjbjofmcmjojlabW.PrintLast Go.Proofs.YtjbjofmcmjojlabW.PrintMore
set_option linter.unusedVariables false
set_option linter.unusedSimpArgs false
def chunkL (D H : List Int) : Nat → Nat → Int → Int
  | 0, _, n => n
  | d + 1, i, n => chunkL D H d (i + 1) (wrap64 (n * wrap64 (Int.tdiv (wrap64 (wrap64 (rd D i + rd H i) - 1)) (rd H i))))
def chunksT (D H : List Int) : Int × Int := if fitT D H = 0 then (chunkL D H D.length 0 1, 0) else (0, fitT D H)
def ofT (A S : List Int) : List Int × List Int × Int := if 4 < A.length ∨ A.length ≠ S.length then ([], [], 2) else ofLoop A S A.length 0 [] []
end Go.Proofs.Ytjbjofmcmjojlab.Pure
end
section
namespace Go.Proofs.Ytjbjofmcmjojlab.Wk
open Go.RowKit Go.Proofs.YtjbjofmcmjojlabW.PrintWords Go.Proofs.YtjbjofmcmjojlabW.PrintLast Go.Proofs.YtjbjofmcmjojlabW.PrintMore
attribute [local go_sem] max2_int min2_int max_two min_two max_three min_three max_four min_four
set_option linter.unusedVariables false
set_option linter.unusedSimpArgs false
def slabvaultlaw13_next.l0 : Nat → List Int → List Int → Int → Option (Bool × List Int)
  | 0, _, _, _ => none
  | k + 1, x0, x1, x5 => if x5 ≥ 0 then (if 0 ≤ x5 then (if x5 < (x0.length : Int) then ((some (x0.set (x5 : Int).toNat (wrap64 ((rd x0 x5) + 1)) : List Int)).bind fun y339 => (if x5 < (x1.length : Int) then (if (rd y339 x5) < (rd x1 x5) then (some (true, y339)) else (slabvaultlaw13_next.l0 k (y339.set (x5 : Int).toNat 0) x1 (wrap64 (x5 - 1)))) else (none))) else (none)) else (none)) else (some (false, x0))
def slabvaultlaw13_next.f (k : Nat) (l0 : List Int) (l1 : List Int) : Option (Bool × List Int) := slabvaultlaw13_next.l0 k l0 l1 (wrap64 ((l0.length : Int) - 1))
end Go.Proofs.Ytjbjofmcmjojlab.Wk
end
section
namespace Go.Proofs.Ytjbjofmcmjojlab.Wk
open Go.RowKit Go.Proofs.YtjbjofmcmjojlabW.PrintWords Go.Proofs.YtjbjofmcmjojlabW.PrintLast Go.Proofs.YtjbjofmcmjojlabW.PrintMore
attribute [local go_sem] max2_int min2_int max_two min_two max_three min_three max_four min_four
set_option linter.unusedVariables false
set_option linter.unusedSimpArgs false
def slabvaultlaw13_counts.l0 : Nat → List Int → List Int → List Int → Int → Option (List Int)
  | 0, _, _, _, _ => none
  | k + 1, x0, x1, x5, x6 => if x6 < (x0.length : Int) then (if 0 ≤ x6 then (if x6 < (x1.length : Int) then (if (rd x1 x6) = 0 then (none) else (if x5.length < 17592186044416 then (slabvaultlaw13_counts.l0 k x0 x1 (x5 ++ [wrap64 (Int.tdiv (wrap64 ((wrap64 ((rd x0 x6) + (rd x1 x6))) - 1)) (rd x1 x6))]) (wrap64 (x6 + 1))) else (none))) else (none)) else (none)) else (some x5)
def slabvaultlaw13_counts.f (k : Nat) (l0 : List Int) (l1 : List Int) : Option (List Int) := slabvaultlaw13_counts.l0 k l0 l1 ([] : List Int) 0
def slabvaultlaw13_counts.T5 : Bool × List (List Nat × List Nat) := (true, [([], []), ([], []), ([], []), ([1, 2], [1, 2]), ([3], [3]), ([], []), ([], []), ([5, 6], [5, 6]), ([7], [7]), ([4, 8], [4, 8]), ([9], [9]), ([], []), ([], []), ([11, 12], [11, 12]), ([13], [13]), ([10, 14], [10, 14]), ([15], [15]), ([0, 16], [0, 16]), ([17, 17, 0, 1, 2, 3, 4, 5, 6, 7, 8, 9, 10, 11, 12, 13, 14, 15, 16, 17], [0, 17])])
def slabvaultlaw13_counts.B5 : List Nat := [0, 0, 0, 6, 14, 0, 0, 96, 224, 510, 1022, 0, 0, 6144, 14336, 32766, 65534, 131071, 262143]
end Go.Proofs.Ytjbjofmcmjojlab.Wk
end
section
namespace Go.Proofs.Ytjbjofmcmjojlab.Pure
open Go.RowKit Go.Proofs.Ytjbjofmcmjojlab.Wk Go.Proofs.YtjbjofmcmjojlabW.PrintWords Go.Proofs.YtjbjofmcmjojlabW.PrintLast Go.Proofs.YtjbjofmcmjojlabW.PrintMore Go.Proofs.YtjbjofmcmjojlabQ
set_option linter.unusedVariables false
set_option linter.unusedSimpArgs false
def prodI : List Int → Int
  | [] => 1
  | d :: D => d * prodI D
def sumI : List Int → Int
  | [] => 0
  | d :: D => d + sumI D
def cntI (d h : Int) : Nat := ((d + h - 1) / h).toNat
def cntL : List Int → List Int → List Nat
  | d :: D, h :: H => cntI d h :: cntL D H
  | _, _ => []
def partL : List Int → List Int → List Nat → Int
  | d :: D, h :: H, i :: s => mn h (d - (i : Int) * h) * partL D H s
  | _, _, _ => 1
def prodN : List Nat → Nat
  | [] => 1
  | n :: N => n * prodN N
theorem lex_length : ∀ (N : List Nat), (lexList N).length = prodN N
  | [] => rfl
  | n :: N => by
    simp only [lexList, prodN]
    have key : ∀ (l : List Nat), (l.flatMap fun i => (lexList N).map (i :: ·)).length = l.length * prodN N := by
      intro l
      induction l with
      | nil => simp
      | cons i l ih => rw [List.flatMap_cons, List.length_append, ih, List.length_map, lex_length N, List.length_cons, Nat.add_mul, Nat.one_mul, Nat.add_comm]
    rw [key, List.length_range]
theorem lex_mem : ∀ (N s : List Nat), s ∈ lexList N → s.length = N.length ∧ ∀ d, d < N.length → s.getD d 0 < N.getD d 0
  | [], s, h => by simp [lexList] at h; subst h; simp
  | n :: N, s, h => by
    simp only [lexList, List.mem_flatMap, List.mem_range, List.mem_map] at h
    obtain ⟨i, hi, t, ht, rfl⟩ := h
    have := lex_mem N t ht
    refine ⟨by simp [this.1], fun d hd => ?_⟩
    cases d with
    | zero => simpa using hi
    | succ d => simpa using this.2 d (by simpa using hd)
theorem rd_ints (s : List Nat) (i : Nat) : rd (ints s) (i : Int) = (s.getD i 0 : Nat) := by
  simp only [rd, ints]
  rcases Nat.lt_or_ge i s.length with h | h
  · simp [List.getD_eq_getElem?_getD, h]
  · simp [List.getD_eq_getElem?_getD, h]
structure Full (D H : List Int) : Prop where
  good : Good D H
  pos : ∀ x ∈ D, 1 ≤ x
theorem Full.dim {D H : List Int} (h : Full D H) (i : Nat) (hi : i < D.length) : 1 ≤ rd D i ∧ rd D i ≤ 1048576 := by
  have := h.good.dims i hi
  have h2 := h.pos _ (List.getElem_mem hi)
  rw [← rd_nat D i hi] at h2
  omega
theorem prodI_drop {D : List Int} (i : Nat) (hi : i < D.length) : prodI (D.drop i) = rd D i * prodI (D.drop (i + 1)) := by
  rw [List.drop_eq_getElem_cons hi, prodI, rd_nat D i hi]
theorem prodLoop_eq (D : List Int) : ∀ (d i : Nat) (n p : Int), D.length - i = d → i ≤ D.length → n ≤ 1048576 → prodLoop D d i n = (p, 0) → p = n * prodI (D.drop i) ∧ p ≤ 1048576 := by
  intro d
  induction d with
  | zero =>
    intro i n p h hi hn hp
    rw [List.drop_eq_nil_of_le (by omega)]
    cases hp
    simp [prodI]; omega
  | succ d ih =>
    intro i n p h hi hn hp
    have hlt : i < D.length := by omega
    rw [prodLoop] at hp
    split at hp
    · simp at hp
    · have := ih (i + 1) _ p (by omega) (by omega) (by omega) hp
      rw [prodI_drop i hlt, ← Int.mul_assoc]
      exact this
end Go.Proofs.Ytjbjofmcmjojlab.Pure
end
section
namespace Go.Proofs.Ytjbjofmcmjojlab.Pure
open Go.RowKit Go.Proofs.Ytjbjofmcmjojlab.Wk Go.Proofs.YtjbjofmcmjojlabW.PrintWords Go.Proofs.YtjbjofmcmjojlabW.PrintLast Go.Proofs.YtjbjofmcmjojlabW.PrintMore Go.Proofs.YtjbjofmcmjojlabQ
set_option linter.unusedVariables false
set_option linter.unusedSimpArgs false
def placeN : List Nat → List Nat → Nat
  | d :: D, t :: T => t * prodN D + placeN D T
  | _, _ => 0
def addN (s t : List Nat) : List Nat := List.zipWith (· + ·) s t
theorem placeN_last : ∀ (D u : List Nat) (a x : Nat), D.length = u.length + 1 → placeN D (u ++ [a + x]) = placeN D (u ++ [x]) + a
  | [], u, _, _, h => by simp at h
  | [d], [], a, x, _ => by simp [placeN, prodN]; omega
  | d :: D, [], a, x, h => by
    have : D = [] := List.eq_nil_of_length_eq_zero (by simpa using h)
    subst this
    simp [placeN, prodN]; omega
  | d :: D, y :: u, a, x, h => by
    simp only [List.cons_append, placeN]
    rw [placeN_last D u a x (by simpa using h)]
    omega
theorem valid_place : ∀ (D T : List Nat), T ∈ lexList D → placeN D T < prodN D
  | [], T, h => by simp [lexList] at h; subst h; simp [placeN, prodN]
  | d :: D, T, h => by
    simp only [lexList, List.mem_flatMap, List.mem_range, List.mem_map] at h
    obtain ⟨i, hi, t, ht, rfl⟩ := h
    have h1 := valid_place D t ht
    have h2 : (i + 1) * prodN D ≤ d * prodN D := Nat.mul_le_mul_right _ hi
    simp only [placeN, prodN]
    rw [Nat.add_mul, Nat.one_mul] at h2
    omega
theorem range_blocks (M : Nat) : ∀ h : Nat, ((List.range h).flatMap fun i => (List.range M).map fun j => i * M + j) = List.range (h * M)
  | 0 => by simp
  | h + 1 => by
    rw [List.range_succ, List.flatMap_append, range_blocks M h, Nat.add_mul, Nat.one_mul, List.range_add]
    simp
theorem lex_places : ∀ H : List Nat, (lexList H).map (placeN H) = List.range (prodN H)
  | [] => rfl
  | h :: H => by
    simp only [lexList, prodN, List.map_flatMap, List.map_map]
    rw [← range_blocks]
    congr 1
    funext i
    rw [← lex_places H, List.map_map]
    rfl
theorem lex_index {H : List Nat} {pre suf : List (List Nat)} {t : List Nat} (h : lexList H = pre ++ t :: suf) : placeN H t = pre.length := by
  have h1 := lex_places H
  rw [h, List.map_append, List.map_cons] at h1
  have h2 := congrArg (fun l => l[pre.length]?) h1
  simp only [List.getElem?_append_right (show (pre.map (placeN H)).length ≤ pre.length by simp), List.length_map, Nat.sub_self, List.getElem?_cons_zero] at h2
  have h3 : pre.length < prodN H := by
    rw [← lex_length, h]; simp
  rw [List.getElem?_range h3] at h2
  exact Option.some.inj h2
theorem lex_snoc : ∀ (P : List Nat) (m : Nat), lexList (P ++ [m]) = (lexList P).flatMap fun s => (List.range m).map fun a => s ++ [a]
  | [], m => by
    have : ∀ n : Nat, (List.range n).flatMap (fun i => [[i]]) = (List.range n).map fun a => [a] := by
      intro n
      induction n with
      | zero => rfl
      | succ n ih => rw [List.range_succ, List.flatMap_append, ih, List.map_append]; rfl
    simpa [lexList] using this m
  | p :: P, m => by
    simp only [List.cons_append, lexList]
    rw [List.flatMap_assoc]
    congr 1
    funext i
    rw [lex_snoc P m, List.map_flatMap, List.flatMap_map]
    congr 1
    funext s
    rw [List.map_map]
    rfl
def insideB : List Nat → List Nat → Bool
  | p :: P, t :: T => decide (t < p) && insideB P T
  | _, _ => true
theorem range_part {α : Type} (f : Nat → List α) (p : Nat) : ∀ h : Nat, p ≤ h → ((List.range h).flatMap fun i => if i < p then f i else []) = (List.range p).flatMap f
  | 0, hp => by have : p = 0 := by omega
                subst this; rfl
  | h + 1, hp => by
    rcases Nat.lt_or_ge h p with hlt | hge
    · have : p = h + 1 := by omega
      subst this
      have : ∀ n : Nat, n ≤ h + 1 → ((List.range n).flatMap fun i => if i < h + 1 then f i else []) = (List.range n).flatMap f := by
        intro n
        induction n with
        | zero => intro _; rfl
        | succ n ih =>
          intro hn
          rw [List.range_succ, List.flatMap_append, List.flatMap_append, ih (by omega)]
          simp [show n < h + 1 by omega]
      exact this _ (Nat.le_refl _)
    · rw [List.range_succ, List.flatMap_append, range_part f p h hge]
      simp [show ¬ h < p by omega]
theorem lex_inside : ∀ (H P : List Nat), H.length = P.length → (∀ d, P.getD d 0 ≤ H.getD d 0) → (lexList H).filter (insideB P) = lexList P
  | [], [], _, _ => by simp [lexList, insideB]
  | h :: H, p :: P, hl, hle => by
    have h0 : p ≤ h := by simpa using hle 0
    have ih := lex_inside H P (by simpa using hl) (fun d => by simpa using hle (d + 1))
    simp only [lexList, List.filter_flatMap]
    rw [← range_part _ p h h0]
    congr 1
    funext i
    rw [List.filter_map, ← ih]
    by_cases c : i < p
    · rw [if_pos c]
      congr 1
      apply List.filter_congr
      intro t _
      simp [insideB, c]
    · rw [if_neg c]
      simp only [List.map_eq_nil_iff, List.filter_eq_nil_iff]
      intro t _
      simp [insideB, c]
def one (Z : Nat) (X O : List Int) (q : Nat × Nat) : List Int := laid O (q.1 * Z) ((X.drop (q.2 * Z)).take Z)
def puts (Z : Nat) (X O : List Int) (l : List (Nat × Nat)) : List Int := l.foldl (one Z X) O
theorem laid_get (xs ys : List Int) (o j : Nat) (h : o + ys.length ≤ xs.length) : (laid xs o ys).getD j 0 = if o ≤ j ∧ j < o + ys.length then ys.getD (j - o) 0 else xs.getD j 0 := by
  simp only [laid, List.getD_eq_getElem?_getD, List.getElem?_append, List.getElem?_take, List.getElem?_drop, List.length_take, List.length_append, List.length_drop]
  split
  · split
    · rw [if_neg (by omega)]
    · omega
  · split
    · rw [if_pos (by omega)]
      congr 2
      omega
    · rw [if_neg (by omega)]
      congr 2
      omega
theorem ext_get {xs ys : List Int} (hl : xs.length = ys.length) (h : ∀ j, j < xs.length → xs.getD j 0 = ys.getD j 0) : xs = ys := by
  apply List.ext_getElem hl
  intro j h1 h2
  have := h j h1
  simpa [List.getD_eq_getElem?_getD, h1, h2] using this
theorem block_length {X : List Int} {Z N f m : Nat} (hX : X.length = N * Z) (hf : f + m ≤ N) : ((X.drop (f * Z)).take (m * Z)).length = m * Z := by
  have : (f + m) * Z ≤ N * Z := Nat.mul_le_mul_right _ hf
  rw [Nat.add_mul] at this
  simp only [List.length_take, List.length_drop]
  omega
theorem block_get {X : List Int} {n o j : Nat} (hj : j < n) : ((X.drop o).take n).getD j 0 = X.getD (o + j) 0 := by
  simp only [List.getD_eq_getElem?_getD, List.getElem?_take, hj, if_true, List.getElem?_drop]
theorem laid_more {X O : List Int} {Z M N t f m : Nat} (hX : X.length = N * Z) (hO : O.length = M * Z) (ht : t + (m + 1) ≤ M) (hf : f + (m + 1) ≤ N) :
    laid O (t * Z) ((X.drop (f * Z)).take ((m + 1) * Z)) = one Z X (laid O (t * Z) ((X.drop (f * Z)).take (m * Z))) (t + m, f + m) := by
  have b1 := block_length hX hf
  have b2 := block_length (Z := Z) hX (show f + m ≤ N by omega)
  have b3 := block_length (Z := Z) (m := 1) hX (show (f + m) + 1 ≤ N by omega)
  rw [Nat.one_mul] at b3
  have ht' : (t + (m + 1)) * Z ≤ M * Z := Nat.mul_le_mul_right _ ht
  have e1 : (t + (m + 1)) * Z = t * Z + m * Z + Z := by rw [Nat.add_mul, Nat.add_mul, Nat.one_mul]; omega
  rw [e1] at ht'
  have e2 : (m + 1) * Z = m * Z + Z := by rw [Nat.add_mul, Nat.one_mul]
  have e3 : (t + m) * Z = t * Z + m * Z := Nat.add_mul _ _ _
  have e4 : (f + m) * Z = f * Z + m * Z := Nat.add_mul _ _ _
  have l1 : (laid O (t * Z) ((X.drop (f * Z)).take ((m + 1) * Z))).length = O.length := laid_length _ _ _ (by rw [b1]; omega)
  have l2 : (laid O (t * Z) ((X.drop (f * Z)).take (m * Z))).length = O.length := laid_length _ _ _ (by rw [b2]; omega)
  unfold one
  rw [e2] at b1 l1
  rw [e4] at b3
  simp only [e2, e3, e4]
  generalize t * Z = a at *
  generalize f * Z = c at *
  generalize m * Z = b at *
  generalize M * Z = mz at *
  have l3 : (laid (laid O a ((X.drop c).take b)) (a + b) ((X.drop (c + b)).take Z)).length = O.length := by rw [laid_length _ _ _ (by rw [l2, b3]; omega), l2]
  refine ext_get (by rw [l1, l3]) (fun j hj => ?_)
  rw [laid_get _ _ _ _ (by rw [b1]; omega), laid_get _ _ _ _ (by rw [l2, b3]; omega), laid_get _ _ _ _ (by rw [b2]; omega), b1, b2, b3]
  by_cases c1 : a ≤ j ∧ j < a + b
  · rw [if_pos ⟨c1.1, by omega⟩, if_neg (by omega), if_pos c1, block_get (by omega), block_get (by omega)]
  · by_cases c2 : a + b ≤ j ∧ j < a + b + Z
    · rw [if_pos ⟨by omega, by omega⟩, if_pos (by omega), block_get (by omega), block_get (by omega)]
      congr 1
      omega
    · rw [if_neg (by omega), if_neg (by omega), if_neg c1]
theorem one_length {X O : List Int} {Z M N : Nat} {q : Nat × Nat} (hX : X.length = N * Z) (hO : O.length = M * Z) (h1 : q.1 < M) (h2 : q.2 < N) : (one Z X O q).length = M * Z := by
  have b := block_length (Z := Z) (m := 1) hX (show q.2 + 1 ≤ N from h2)
  rw [Nat.one_mul] at b
  have : (q.1 + 1) * Z ≤ M * Z := Nat.mul_le_mul_right _ h1
  rw [Nat.add_mul, Nat.one_mul] at this
  unfold one
  rw [laid_length _ _ _ (by rw [b]; omega), hO]
theorem puts_length {X : List Int} {Z M N : Nat} (hX : X.length = N * Z) : ∀ (l : List (Nat × Nat)) (O : List Int), O.length = M * Z → (∀ q ∈ l, q.1 < M ∧ q.2 < N) → (puts Z X O l).length = M * Z
  | [], O, hO, _ => hO
  | q :: l, O, hO, h => by
    have hq := h q List.mem_cons_self
    exact puts_length hX l _ (one_length hX hO hq.1 hq.2) (fun q' hq' => h q' (List.mem_cons_of_mem _ hq'))
theorem row_puts {X O : List Int} {Z M N t f : Nat} (hX : X.length = N * Z) (hO : O.length = M * Z) : ∀ m : Nat, t + m ≤ M → f + m ≤ N →
    laid O (t * Z) ((X.drop (f * Z)).take (m * Z)) = puts Z X O ((List.range m).map fun a => (t + a, f + a))
  | 0, h1, _ => by
    have : t * Z ≤ M * Z := Nat.mul_le_mul_right _ (by omega)
    simp [puts, laid]
  | m + 1, h1, h2 => by
    rw [laid_more hX hO h1 h2, row_puts hX hO m (by omega) (by omega)]
    simp only [puts]
    rw [List.range_succ, List.map_append, List.foldl_append]
    rfl
theorem fold_ev {β : Type} (step : Nat → List Int → β → Option (List Int)) (stepN : List Int → β → List Int) (J : List Int → Prop) : ∀ (l : List β) (O : List Int), J O → (∀ q ∈ l, ∀ O, J O → Ev (fun k => step k O q) (stepN O q) ∧ J (stepN O q)) → Ev (fun k => l.foldlM (step k) O) (l.foldl stepN O)
  | [], O, _, _ => Ev.now _
  | q :: l, O, hJ, h => by
    have hq := h q List.mem_cons_self O hJ
    simp only [List.foldlM_cons, List.foldl_cons]
    exact Ev.bind hq.1 (fold_ev step stepN J l _ hq.2 (fun q' hq' => h q' (List.mem_cons_of_mem _ hq')))
theorem contains_ints (P : List Nat) : (ints P).contains 0 = P.contains 0 := by
  induction P with
  | nil => rfl
  | cons p P ih =>
    simp only [ints, List.map_cons, List.contains_cons] at ih ⊢
    rw [ih]
    congr 1
    cases p <;> rfl
theorem lex_nought : ∀ P : List Nat, P.contains 0 = true → lexList P = []
  | [], h => by simp at h
  | p :: P, h => by
    simp only [List.contains_cons, Bool.or_eq_true, beq_iff_eq] at h
    rcases h with h | h
    · subst h; simp [lexList]
    · simp [lexList, lex_nought P h]
theorem toNat_ints (s : List Nat) : (ints s).map Int.toNat = s := by
  induction s with
  | nil => rfl
  | cons x s ih =>
    simp only [ints, List.map_cons] at ih ⊢
    rw [ih]
    rfl
theorem toNat_at (s : List Nat) : (ints s ++ [0]).map Int.toNat = s ++ [0] := by
  rw [List.map_append, toNat_ints]; rfl
theorem rows_fold (step : Nat → List Int → List Int × Int → Option (List Int)) (Z M N : Nat) (X : List Int) (toF fromF : List Nat → Nat) (P : List Nat) (hX : X.length = N * Z)
    (hadd : ∀ (s : List Nat) (a : Nat), s.length + 1 = P.length → toF (s ++ [a]) = toF (s ++ [0]) + a ∧ fromF (s ++ [a]) = fromF (s ++ [0]) + a) (hb : ∀ t ∈ lexList P, toF t < M ∧ fromF t < N)
    (hstep : ∀ (O : List Int) (t : List Nat) (m : Nat), O.length = M * Z → 1 ≤ m → t ∈ lexList P → toF t + m ≤ M → fromF t + m ≤ N → Ev (fun k => step k O (ints t, (m : Int))) (laid O (toF t * Z) ((X.drop (fromF t * Z)).take (m * Z)))) (O : List Int) (hO : O.length = M * Z) :
    Ev (fun k => (rowsOf (ints P)).foldlM (step k) O) (puts Z X O ((lexList P).map fun t => (toF t, fromF t))) := by
  unfold rowsOf
  rw [contains_ints]
  by_cases hz : P.contains 0 = true
  · rw [if_pos hz, lex_nought P hz]
    exact Ev.now _
  rw [if_neg hz]
  rcases List.eq_nil_or_concat P with rfl | ⟨P', m, rfl⟩
  · have ht := hb [] (by simp [lexList])
    simp only [show ints [] = [] from rfl, if_true]
    refine Ev.bind (a := laid O (toF [] * Z) ((X.drop (fromF [] * Z)).take (1 * Z))) ?_ ?_
    · exact hstep O [] 1 hO (by omega) (by simp [lexList]) (by omega) (by omega)
    · simp only [lexList, List.map_cons, List.map_nil, puts, List.foldl_cons, List.foldl_nil, one, Nat.one_mul]
      exact Ev.now _
  · simp only [List.concat_eq_append] at *
    have hne : ints (P' ++ [m]) ≠ [] := by simp [ints]
    rw [if_neg hne]
    have e1 : (ints (P' ++ [m])).dropLast.map Int.toNat = P' := by
      rw [show (ints (P' ++ [m])).dropLast = ints P' by simp [ints], toNat_ints]
    have e2 : (((ints (P' ++ [m])).getLast?.getD 0).toNat : Int) = (m : Int) := by simp [ints]
    rw [e1, e2]
    have hm : 1 ≤ m := by
      rcases Nat.eq_zero_or_pos m with h0 | h0
      · subst h0; simp at hz
      · exact h0
    have hin : ∀ s ∈ lexList P', ∀ a, a < m → s ++ [a] ∈ lexList (P' ++ [m]) := by
      intro s hs a ha
      rw [lex_snoc]
      exact List.mem_flatMap.2 ⟨s, hs, List.mem_map.2 ⟨a, List.mem_range.2 ha, rfl⟩⟩
    have hat : ∀ s : List Nat, atOf s = ints (s ++ [0]) := by intro s; simp [atOf, ints]
    have hrow : ∀ s ∈ lexList P', toF (s ++ [0]) + m ≤ M ∧ fromF (s ++ [0]) + m ≤ N := by
      intro s hs
      have h1 := hb _ (hin s hs (m - 1) (by omega))
      have h2 := hadd s (m - 1) (by have := (lex_mem _ _ hs).1; simp; omega)
      omega
    have hmain := fold_ev step (fun O q => puts Z X O ((List.range m).map fun a => (toF ((q.1.map Int.toNat)) + a, fromF ((q.1.map Int.toNat)) + a))) (fun O => O.length = M * Z) ((lexList P').map fun s => (atOf s, (m : Int))) O hO (fun q hq O' hO' => by
      obtain ⟨s, hs, rfl⟩ := List.mem_map.1 hq
      have hr := hrow s hs
      have ht : (atOf s).map Int.toNat = s ++ [0] := toNat_at s
      simp only [ht]
      refine ⟨?_, puts_length (N := N) hX _ _ hO' (fun q' hq' => ?_)⟩
      · rw [← row_puts hX hO' m hr.1 hr.2, hat]
        exact hstep O' (s ++ [0]) m hO' hm (hin s hs 0 (by omega)) hr.1 hr.2
      · obtain ⟨a, ha, rfl⟩ := List.mem_map.1 hq'
        have := List.mem_range.1 ha
        simp only
        omega)
    have e3 : ∀ (l : List (List Nat)) (O : List Int), (∀ s ∈ l, s ∈ lexList P') → (l.map fun s => (atOf s, (m : Int))).foldl (fun O q => puts Z X O ((List.range m).map fun a => (toF ((q.1.map Int.toNat)) + a, fromF ((q.1.map Int.toNat)) + a))) O = puts Z X O ((l.flatMap fun s => (List.range m).map fun a => s ++ [a]).map fun t => (toF t, fromF t)) := by
      intro l
      induction l with
      | nil => intro O _; rfl
      | cons s l ih =>
        intro O hl
        have ht : (atOf s).map Int.toNat = s ++ [0] := toNat_at s
        rw [List.map_cons, List.foldl_cons, ih _ (fun x hx => hl x (List.mem_cons_of_mem _ hx)), List.flatMap_cons, List.map_append]
        simp only [puts]
        rw [List.foldl_append]
        congr 2
        rw [ht, List.map_map]
        apply List.map_congr_left
        intro a _
        have h2 := hadd s a (by have := (lex_mem _ _ (hl s List.mem_cons_self)).1; simp; omega)
        simp only [Function.comp, h2.1, h2.2]
    rw [e3 _ _ (fun s hs => hs), ← lex_snoc] at hmain
    exact hmain
theorem laid_over (G F R B : List Int) (h : B.length = F.length) : laid (G ++ (F ++ R)) G.length B = (G ++ B) ++ R := by
  simp only [laid, h]
  rw [List.take_left, List.drop_append, List.drop_eq_nil_of_le (show G.length ≤ G.length + F.length by omega), show G.length + F.length - G.length = F.length by omega, List.drop_left, List.nil_append, List.append_assoc]
theorem fill_puts {Z N : Nat} {X F : List Int} (hX : X.length = N * Z) (hF : F.length = Z) (H : List Nat) (inside : List Nat → Bool) (fromF : List Nat → Nat) : ∀ (suf pre : List (List Nat)) (G : List Int), lexList H = pre ++ suf → G.length = pre.length * Z → (∀ t ∈ suf, inside t = true → fromF t < N) →
    puts Z X (G ++ repB suf.length F) ((suf.filter inside).map fun t => (placeN H t, fromF t)) = G ++ suf.flatMap fun t => if inside t = true then (X.drop (fromF t * Z)).take Z else F
  | [], pre, G, _, _, _ => by simp [puts, repB]
  | t :: suf, pre, G, h, hG, hb => by
    have hp := lex_index h
    have e1 : repB (suf.length + 1) F = F ++ repB suf.length F := by
      rw [Nat.add_comm, repB_add]; simp [repB]
    rw [List.length_cons, e1, List.filter_cons, List.flatMap_cons]
    have hb' : ∀ x ∈ suf, inside x = true → fromF x < N := fun x hx => hb x (List.mem_cons_of_mem _ hx)
    by_cases c : inside t = true
    · rw [if_pos c, if_pos c]
      have hbl := block_length (Z := Z) (m := 1) hX (hb t List.mem_cons_self c)
      rw [Nat.one_mul] at hbl
      have hone : one Z X (G ++ (F ++ repB suf.length F)) (placeN H t, fromF t) = (G ++ (X.drop (fromF t * Z)).take Z) ++ repB suf.length F := by
        simp only [one]
        rw [hp, ← hG]
        exact laid_over G F _ _ (by rw [hbl, hF])
      simp only [List.map_cons, puts, List.foldl_cons]
      rw [hone]
      have := fill_puts hX hF H inside fromF suf (pre ++ [t]) (G ++ (X.drop (fromF t * Z)).take Z) (by rw [h]; simp) (by rw [List.length_append, hbl, hG, List.length_append, Nat.add_mul]; simp) hb'
      simp only [puts] at this
      rw [this, List.append_assoc]
    · rw [if_neg c, if_neg c, ← List.append_assoc]
      have := fill_puts hX hF H inside fromF suf (pre ++ [t]) (G ++ F) (by rw [h]; simp) (by rw [List.length_append, hF, hG, List.length_append, Nat.add_mul]; simp) hb'
      rw [this, List.append_assoc]
end Go.Proofs.Ytjbjofmcmjojlab.Pure
end
section
namespace Go.Proofs.Ytjbjofmcmjojlab.Wk
open Go.RowKit Go.Proofs.YtjbjofmcmjojlabW.PrintWords Go.Proofs.YtjbjofmcmjojlabW.PrintLast Go.Proofs.YtjbjofmcmjojlabW.PrintMore
attribute [local go_sem] max2_int min2_int max_two min_two max_three min_three max_four min_four
set_option linter.unusedVariables false
set_option linter.unusedSimpArgs false
mutual
def slabvaultref13_bytes.j0 : Nat → List Int → Int → List Int → List Int → List Int → List Int → Bool → Bool → Option (Int)
  | 0, _, _, _, _, _, _, _, _ => none
  | k + 1, x0, x1, x2, x3, x4, x5, x6, x32 => if x32 = true then (some 2) else ((slabvaultref12_Elements.f k x2).bind fun bt245 => ((slabvaultref12_Elements.f k x3).bind fun bt247 => (if (wrap64 (bt245.1 * x1)) > 65536 then (slabvaultref13_bytes.j1 k x0 x1 x2 x4 x5 x6 bt245.1 bt247.1 true) else (slabvaultref13_bytes.j1 k x0 x1 x2 x4 x5 x6 bt245.1 bt247.1 (decide ((wrap64 (bt247.1 * x1)) > 65536))))))
def slabvaultref13_bytes.j1 : Nat → List Int → Int → List Int → List Int → List Int → Bool → Int → Int → Bool → Option (Int)
  | 0, _, _, _, _, _, _, _, _, _ => none
  | k + 1, x0, x1, x2, x4, x5, x6, x16, x18, x52 => if x52 = true then (some 3) else (if x6 = true then (slabvaultref13_bytes.j2 k x0 x1 x2 x4 x5 x16 (wrap64 (x18 * x1))) else (slabvaultref13_bytes.j2 k x0 x1 x2 x4 x5 x16 x1))
def slabvaultref13_bytes.j2 : Nat → List Int → Int → List Int → List Int → List Int → Int → Int → Option (Int)
  | 0, _, _, _, _, _, _, _ => none
  | k + 1, x0, x1, x2, x4, x5, x16, x20 => if (x0.length : Int) = (wrap64 (x16 * x1)) then (if (x5.length : Int) = x20 then ((slabvaultref13_right.f k x4 (x2.length : Int)).bind fun t249 => (if t249 = true then (some 0) else (some 2))) else (some 2)) else (some 2)
end
def slabvaultref13_bytes.f (k : Nat) (l0 : List Int) (a1 : Int) (l2 : List Int) (l3 : List Int) (l4 : List Int) (l5 : List Int) (a6 : Bool) : Option (Int) := (slabvaultref13_Fit.f k l2 l3).bind fun t244 => (if t244 = 0 then (if a1 < 1 then (slabvaultref13_bytes.j0 k l0 a1 l2 l3 l4 l5 a6 true) else (slabvaultref13_bytes.j0 k l0 a1 l2 l3 l4 l5 a6 (decide (a1 > 256)))) else (some t244))
end Go.Proofs.Ytjbjofmcmjojlab.Wk
end
section
namespace Go.Proofs.Ytjbjofmcmjojlab.Wk
open Go.RowKit Go.Proofs.YtjbjofmcmjojlabW.PrintWords Go.Proofs.YtjbjofmcmjojlabW.PrintLast Go.Proofs.YtjbjofmcmjojlabW.PrintMore
attribute [local go_sem] max2_int min2_int max_two min_two max_three min_three max_four min_four
set_option linter.unusedVariables false
set_option linter.unusedSimpArgs false
mutual
def slabvaultref13_tuples.l0 : Nat → List Int → List (List Int) → Int → Option ((List (List Int)))
  | 0, _, _, _ => none
  | k + 1, x0, x3, x4 => if x4 < (x0.length : Int) then (slabvaultref13_tuples.l1 k x0 x3 x4 ([] : List (List Int)) 0) else (some x3)
def slabvaultref13_tuples.l1 : Nat → List Int → List (List Int) → Int → List (List Int) → Int → Option ((List (List Int)))
  | 0, _, _, _, _, _ => none
  | k + 1, x0, x3, x4, x5, x6 => if x6 < (x3.length : Int) then (slabvaultref13_tuples.l2 k x0 x3 x4 x5 x6 0) else (slabvaultref13_tuples.l0 k x0 x5 (wrap64 (x4 + 1)))
def slabvaultref13_tuples.l2 : Nat → List Int → List (List Int) → Int → List (List Int) → Int → Int → Option ((List (List Int)))
  | 0, _, _, _, _, _, _ => none
  | k + 1, x0, x3, x4, x5, x6, x7 => if 0 ≤ x4 then (if x4 < (x0.length : Int) then (if x7 < (rd x0 x4) then ((some (([] : List Int) : List Int)).bind fun y257 => (if 0 ≤ x6 then (if x6 < (x3.length : Int) then (if y257.length + (rd_L1 x3 x6).length < 17592186044416 then ((some (y257 ++ (rd_L1 x3 x6) : List Int)).bind fun y261 => (if y261.length < 17592186044416 then (if x5.length < 5864062014805 then (slabvaultref13_tuples.l2 k x0 x3 x4 (x5 ++ [(y261 ++ [x7])]) x6 (wrap64 (x7 + 1))) else (none)) else (none))) else (none)) else (none)) else (none))) else (slabvaultref13_tuples.l1 k x0 x3 x4 x5 (wrap64 (x6 + 1)))) else (none)) else (none)
end
def slabvaultref13_tuples.f (k : Nat) (l0 : List Int) : Option ((List (List Int))) := slabvaultref13_tuples.l0 k l0 (([(([] : List Int))] : List (List Int))) 0
end Go.Proofs.Ytjbjofmcmjojlab.Wk
end
section
namespace Go.Proofs.Ytjbjofmcmjojlab.Wk
open Go.RowKit Go.Proofs.YtjbjofmcmjojlabW.PrintWords Go.Proofs.YtjbjofmcmjojlabW.PrintLast Go.Proofs.YtjbjofmcmjojlabW.PrintMore
attribute [local go_sem] max2_int min2_int max_two min_two max_three min_three max_four min_four
set_option linter.unusedVariables false
set_option linter.unusedSimpArgs false
def slabvaultref13_where.l0 : Nat → List Int → List Int → List Int → List Int → List Int → Int → Option (List Int × Bool)
  | 0, _, _, _, _, _, _ => none
  | k + 1, x0, x1, x2, x3, x10, x11 => if x11 < (x0.length : Int) then (if 0 ≤ x11 then (if x11 < (x2.length : Int) then (if (rd x2 x11) > (rd x0 x11) then (some (([] : List Int), false)) else (if x11 < (x1.length : Int) then (if x11 < (x3.length : Int) then (if (wrap64 ((wrap64 ((rd x2 x11) * (rd x1 x11))) + (rd x3 x11))) ≥ (rd x0 x11) then (some (([] : List Int), false)) else (if x10.length < 17592186044416 then (slabvaultref13_where.l0 k x0 x1 x2 x3 (x10 ++ [wrap64 ((wrap64 ((rd x2 x11) * (rd x1 x11))) + (rd x3 x11))]) (wrap64 (x11 + 1))) else (none))) else (none)) else (none))) else (none)) else (none)) else (some (x10, true))
def slabvaultref13_where.f (k : Nat) (l0 : List Int) (l1 : List Int) (l2 : List Int) (l3 : List Int) : Option (List Int × Bool) := slabvaultref13_where.l0 k l0 l1 l2 l3 ([] : List Int) 0
def slabvaultref13_where.T5 : Bool × List (List Nat × List Nat) := (true, [([], []), ([], []), ([0, 1], [0, 1]), ([2], [2]), ([], []), ([], []), ([4, 5], [4, 5]), ([6], [6]), ([3, 7], [3, 7]), ([8], [8]), ([9], [9]), ([9], [9]), ([10, 11, 9], [9, 10, 11]), ([12, 9], [9, 12]), ([9], [9]), ([9], [9]), ([14, 15, 9], [9, 14, 15]), ([16, 9], [9, 16]), ([13, 17, 9], [9, 13, 17]), ([9], [9]), ([9], [9]), ([19, 20, 9], [9, 19, 20]), ([21, 9], [9, 21]), ([18, 22, 9], [9, 18, 22]), ([9], [9]), ([9], [9]), ([24, 25, 9], [9, 24, 25]), ([26, 9], [9, 26]), ([23, 27, 9], [9, 23, 27]), ([9, 28], [9, 28])])
def slabvaultref13_where.B5 : List Nat := [0, 0, 3, 7, 0, 0, 48, 112, 255, 511, 1023, 1023, 4095, 8191, 1023, 1023, 50175, 115711, 262143, 1023, 1023, 1573887, 3671039, 8388607, 1023, 1023, 50332671, 117441535, 268435455, 536870911]
def slabvaultref13_where.T7 : Bool × List (List Nat × List Nat) := (true, [([], []), ([], []), ([], []), ([1, 2], [1, 2]), ([3], [3]), ([], []), ([], []), ([5, 6], [5, 6]), ([7], [7]), ([4, 8], [4, 8]), ([], []), ([], []), ([10, 11], [10, 11]), ([12], [12]), ([9, 13], [9, 13]), ([14], [14]), ([0, 15], [0, 15]), ([16, 16, 0, 1, 2, 3, 4, 5, 6, 7, 8, 9, 10, 11, 12, 13, 14, 15, 16], [0, 16])])
def slabvaultref13_where.B7 : List Nat := [0, 0, 0, 6, 14, 0, 0, 96, 224, 510, 0, 0, 3072, 7168, 16382, 32766, 65535, 131071]
end Go.Proofs.Ytjbjofmcmjojlab.Wk
end
section
namespace Go.Proofs.Ytjbjofmcmjojlab.Wk
open Go.RowKit Go.Proofs.YtjbjofmcmjojlabW.PrintWords Go.Proofs.YtjbjofmcmjojlabW.PrintLast Go.Proofs.YtjbjofmcmjojlabW.PrintMore
attribute [local go_sem] max2_int min2_int max_two min_two max_three min_three max_four min_four
set_option linter.unusedVariables false
set_option linter.unusedSimpArgs false
def slabvaultref12_Place.l0 : Nat → List Int → List Int → Int → Int → Option (Int)
  | 0, _, _, _, _ => none
  | k + 1, x0, x1, x5, x6 => if x6 < (x0.length : Int) then (if 0 ≤ x6 then (if x6 < (x1.length : Int) then (slabvaultref12_Place.l0 k x0 x1 (wrap64 ((wrap64 (x5 * (rd x0 x6))) + (rd x1 x6))) (wrap64 (x6 + 1))) else (none)) else (none)) else (some x5)
def slabvaultref12_Place.f (k : Nat) (l0 : List Int) (l1 : List Int) : Option (Int) := slabvaultref12_Place.l0 k l0 l1 0 0
end Go.Proofs.Ytjbjofmcmjojlab.Wk
end
section
namespace Go.Proofs.Ytjbjofmcmjojlab.Wk
open Go.RowKit Go.Proofs.YtjbjofmcmjojlabW.PrintWords Go.Proofs.YtjbjofmcmjojlabW.PrintLast Go.Proofs.YtjbjofmcmjojlabW.PrintMore
attribute [local go_sem] max2_int min2_int max_two min_two max_three min_three max_four min_four
set_option linter.unusedVariables false
set_option linter.unusedSimpArgs false
def slabvaultref13_Cut.l0 : Nat → List Int → Int → List Int → List Int → List Int → List Int → List Int → List (List Int) → Int → Option (List Int × Int)
  | 0, _, _, _, _, _, _, _, _, _ => none
  | k + 1, x0, x1, x2, x3, x4, x5, x15, x16, x17 => if x17 < (x16.length : Int) then (if 0 ≤ x17 then ((slabvaultref13_where.f k x2 x3 x4 (rd_L1 x16 x17)).bind fun bt289 => (if bt289.2 = true then ((slabvaultref12_Place.f k x2 bt289.1).bind fun t293 => (if 0 ≤ (wrap64 (t293 * x1)) then (if (wrap64 (t293 * x1)) ≤ (wrap64 ((wrap64 (t293 * x1)) + x1)) then (if (wrap64 ((wrap64 (t293 * x1)) + x1)) ≤ (x0.length : Int) then (if x15.length + ((x0.take ((wrap64 ((wrap64 (t293 * x1)) + x1)) : Int).toNat).drop ((wrap64 (t293 * x1)) : Int).toNat).length < 140737488355328 then (slabvaultref13_Cut.l0 k x0 x1 x2 x3 x4 x5 (x15 ++ ((x0.take ((wrap64 ((wrap64 (t293 * x1)) + x1)) : Int).toNat).drop ((wrap64 (t293 * x1)) : Int).toNat)) x16 (wrap64 (x17 + 1))) else (none)) else (none)) else (none)) else (none))) else (if x15.length + x5.length < 140737488355328 then (slabvaultref13_Cut.l0 k x0 x1 x2 x3 x4 x5 (x15 ++ x5) x16 (wrap64 (x17 + 1))) else (none)))) else (none)) else (some (x15, 0))
def slabvaultref13_Cut.f (k : Nat) (l0 : List Int) (a1 : Int) (l2 : List Int) (l3 : List Int) (l4 : List Int) (l5 : List Int) : Option (List Int × Int) := (slabvaultref13_bytes.f k l0 a1 l2 l3 l4 l5 false).bind fun t284 => (if t284 = 0 then ((slabvaultref13_tuples.f k l3).bind fun t285 => (slabvaultref13_Cut.l0 k l0 a1 l2 l3 l4 l5 ([] : List Int) t285 0)) else (some (([] : List Int), t284)))
end Go.Proofs.Ytjbjofmcmjojlab.Wk
end
section
namespace Go.Proofs.Ytjbjofmcmjojlab.Wk
open Go.RowKit Go.Proofs.YtjbjofmcmjojlabW.PrintWords Go.Proofs.YtjbjofmcmjojlabW.PrintLast Go.Proofs.YtjbjofmcmjojlabW.PrintMore
attribute [local go_sem] max2_int min2_int max_two min_two max_three min_three max_four min_four
set_option linter.unusedVariables false
set_option linter.unusedSimpArgs false
mutual
def slabvaultref13_Paste.l0 : Nat → Int → List Int → List Int → List Int → List Int → List Int → List (List Int) → Int → Option (List Int × Int)
  | 0, _, _, _, _, _, _, _, _ => none
  | k + 1, x1, x2, x3, x4, x5, x15, x16, x17 => if x17 < (x16.length : Int) then (if 0 ≤ x17 then ((slabvaultref13_where.f k x2 x3 x4 (rd_L1 x16 x17)).bind fun bt312 => (if bt312.2 = true then ((slabvaultref12_Place.f k x2 bt312.1).bind fun t316 => (slabvaultref13_Paste.l1 k x1 x2 x3 x4 x5 x15 x16 x17 (wrap64 (t316 * x1)) 0)) else (slabvaultref13_Paste.l0 k x1 x2 x3 x4 x5 x15 x16 (wrap64 (x17 + 1))))) else (none)) else (some (x15, 0))
def slabvaultref13_Paste.l1 : Nat → Int → List Int → List Int → List Int → List Int → List Int → List (List Int) → Int → Int → Int → Option (List Int × Int)
  | 0, _, _, _, _, _, _, _, _, _, _ => none
  | k + 1, x1, x2, x3, x4, x5, x15, x16, x17, x20, x21 => if x21 < x1 then (if 0 ≤ (wrap64 ((wrap64 (x17 * x1)) + x21)) then (if (wrap64 ((wrap64 (x17 * x1)) + x21)) < (x5.length : Int) then (if 0 ≤ (wrap64 (x20 + x21)) then (if (wrap64 (x20 + x21)) < (x15.length : Int) then (slabvaultref13_Paste.l1 k x1 x2 x3 x4 x5 (x15.set ((wrap64 (x20 + x21)) : Int).toNat (rd x5 (wrap64 ((wrap64 (x17 * x1)) + x21)))) x16 x17 x20 (wrap64 (x21 + 1))) else (none)) else (none)) else (none)) else (none)) else (slabvaultref13_Paste.l0 k x1 x2 x3 x4 x5 x15 x16 (wrap64 (x17 + 1)))
end
def slabvaultref13_Paste.f (k : Nat) (l0 : List Int) (a1 : Int) (l2 : List Int) (l3 : List Int) (l4 : List Int) (l5 : List Int) : Option (List Int × Int) := (slabvaultref13_bytes.f k l0 a1 l2 l3 l4 l5 true).bind fun t301 => (if t301 = 0 then ((some (([] : List Int) : List Int)).bind fun y302 => (if y302.length + l0.length < 140737488355328 then ((slabvaultref13_tuples.f k l3).bind fun t308 => (slabvaultref13_Paste.l0 k a1 l2 l3 l4 l5 (y302 ++ l0) t308 0)) else (none))) else (some (([] : List Int), t301)))
end Go.Proofs.Ytjbjofmcmjojlab.Wk
end
section
namespace Go.Proofs.Ytjbjofmcmjojlab.Pure
open Go.RowKit Go.Proofs.Ytjbjofmcmjojlab.Wk Go.Proofs.YtjbjofmcmjojlabW.PrintWords Go.Proofs.YtjbjofmcmjojlabW.PrintLast Go.Proofs.YtjbjofmcmjojlabW.PrintMore Go.Proofs.YtjbjofmcmjojlabQ
set_option linter.unusedVariables false
set_option linter.unusedSimpArgs false
theorem lex_of : ∀ D T : List Nat, T.length = D.length → (∀ d, d < D.length → T.getD d 0 < D.getD d 0) → T ∈ lexList D
  | [], T, hl, _ => by
    have : T = [] := List.eq_nil_of_length_eq_zero hl
    subst this; simp [lexList]
  | d :: D, [], hl, _ => by simp at hl
  | d :: D, t :: T, hl, h => by
    simp only [lexList, List.mem_flatMap, List.mem_range, List.mem_map]
    refine ⟨t, by simpa using h 0 (by simp), T, lex_of D T (by simpa using hl) (fun j hj => ?_), rfl⟩
    simpa using h (j + 1) (by simpa using hj)
theorem getD_drop (D : List Nat) (i : Nat) (h : i < D.length) : D.drop i = D.getD i 0 :: D.drop (i + 1) := by
  rw [List.drop_eq_getElem_cons h]
  simp [List.getD_eq_getElem?_getD, h]
theorem prodN_ge : ∀ D : List Nat, (∀ d, d < D.length → 1 ≤ D.getD d 0) → 1 ≤ prodN D
  | [], _ => by simp [prodN]
  | d :: D, h => by
    have h1 := prodN_ge D (fun j hj => by simpa using h (j + 1) (by simpa using hj))
    have h2 : 1 ≤ d := by simpa using h 0 (by simp)
    exact Nat.mul_le_mul h2 h1
theorem ints_length (s : List Nat) : (ints s).length = s.length := by simp [ints]
theorem place_step {n d t R : Nat} (ht : t < d) (hR : 1 ≤ R) (h : (n + 1) * (d * R) ≤ 1048576) : wrap64 (wrap64 ((n : Int) * (d : Int)) + (t : Int)) = ((n * d + t : Nat) : Int) ∧ (n * d + t + 1) * R ≤ 1048576 := by
  have h1 : n * d + t + 1 ≤ (n + 1) * d := by rw [Nat.add_mul, Nat.one_mul]; omega
  have h2 : (n * d + t + 1) * R ≤ (n + 1) * d * R := Nat.mul_le_mul_right _ h1
  rw [Nat.mul_assoc] at h2
  have h3 : (n * d + t + 1) * 1 ≤ (n * d + t + 1) * R := Nat.mul_le_mul_left _ hR
  have e : (n : Int) * (d : Int) = ((n * d : Nat) : Int) := by push_cast; rfl
  rw [e]
  refine ⟨?_, by omega⟩
  generalize n * d = q at *
  unfold wrap64; omega
theorem valid_rest {D T : List Nat} (hv : ∀ d, d < D.length → T.getD d 0 < D.getD d 0) (i : Nat) : 1 ≤ prodN (D.drop i) := by
  apply prodN_ge
  intro d hd
  rw [List.length_drop] at hd
  have := hv (i + d) (by omega)
  simp only [List.getD_eq_getElem?_getD, List.getElem?_drop] at this ⊢
  omega
theorem place_sum {n d t R p : Nat} : (n * d + t) * R + p = n * (d * R) + (t * R + p) := by
  rw [Nat.add_mul, Nat.mul_assoc]; omega
theorem place_l0 (D T : List Nat) (h4 : D.length ≤ 4) (hl : T.length = D.length) (hv : ∀ d, d < D.length → T.getD d 0 < D.getD d 0) : ∀ (d i n : Nat), D.length - i = d → i ≤ D.length → (n + 1) * prodN (D.drop i) ≤ 1048576 →
    Ev (fun k => grid_place.l0 k (ints D) (ints T) (n : Int) (D.length : Int) i) ((n * prodN (D.drop i) + placeN (D.drop i) (T.drop i) : Nat) : Int) := by
  have l1 := ints_length D
  have l2 := ints_length T
  intro d
  induction d with
  | zero =>
    intro i n h hi _
    refine Ev.step (f := fun _ => some (n : Int)) (fun k => ?_) ?_
    · simp only [grid_place.l0]
      rw [if_neg (by omega)]
    · rw [List.drop_eq_nil_of_le (show D.length ≤ i by omega)]
      simpa [prodN, placeN] using Ev.now (n : Int)
  | succ d ih =>
    intro i n h hi hb
    have hlt : i < D.length := by omega
    rw [getD_drop D i hlt, getD_drop T i (by omega), prodN] at *
    have hs := place_step (hv i hlt) (valid_rest hv (i + 1)) hb
    rw [placeN, ← place_sum]
    refine Ev.step (f := fun k => grid_place.l0 k (ints D) (ints T) ((n * D.getD i 0 + T.getD i 0 : Nat) : Int) (D.length : Int) ((i + 1 : Nat) : Int)) (fun k => ?_) (ih (i + 1) _ (by omega) (by omega) hs.2)
    simp only [grid_place.l0]
    rw [if_pos (by omega), if_pos (by omega), if_pos (by omega), if_pos (by omega), rd_ints, rd_ints, hs.1, wrap_up hlt (by omega)]
theorem place_ev (D T : List Nat) (h4 : D.length ≤ 4) (hT : T ∈ lexList D) (hp : prodN D ≤ 1048576) : Ev (fun k => grid_place.f k (ints D) (ints T)) ((placeN D T : Nat) : Int) := by
  have hm := lex_mem D T hT
  unfold grid_place.f
  have := place_l0 D T h4 hm.1 hm.2 D.length 0 0 (by omega) (by omega) (by simpa using hp)
  simpa [ints_length] using this
theorem mul_cast (p Z : Nat) : ((p : Nat) : Int) * (Z : Int) = ((p * Z : Nat) : Int) := by push_cast; rfl
structure Ext (D : List Int) (E : List Nat) : Prop where
  eq : D = ints E
  len : E.length ≤ 4
  dim : ∀ d, E.getD d 0 ≤ 1048576
  prod : prodN E ≤ 1048576
  elems : elemsT D = (((prodN E : Nat) : Int), 0)
theorem prodI_ints (E : List Nat) : prodI (ints E) = ((prodN E : Nat) : Int) := by
  induction E with
  | nil => rfl
  | cons e E ih =>
    simp only [ints, List.map_cons, prodI, prodN] at ih ⊢
    rw [ih]; push_cast; rfl
theorem prodN_nought (E : List Nat) (h : E.contains 0 = true) : prodN E = 0 := by
  rw [← lex_length, lex_nought E h]; rfl
theorem ext_of {D : List Int} (h : (elemsT D).2 = 0) : Ext D (D.map Int.toNat) := by
  have h4 : ¬ (4 < D.length ∨ D.any badDim = true) := by
    intro hc
    unfold elemsT at h
    rw [if_pos hc] at h
    cases h
  have hb : D.any badDim = false := by
    cases hb : D.any badDim
    · rfl
    · exact absurd (.inr hb) h4
  have hge : ∀ x ∈ D, 0 ≤ x ∧ x ≤ 1048576 := by
    intro x hx
    obtain ⟨i, hi, rfl⟩ := List.getElem_of_mem hx
    rw [← rd_nat D i hi]
    exact good_rd hb i hi
  have he : ints (D.map Int.toNat) = D := by
    clear h h4 hb
    induction D with
    | nil => rfl
    | cons x D ih =>
      have h1 := ih (fun y hy => hge y (List.mem_cons_of_mem _ hy))
      have h2 := hge x List.mem_cons_self
      simp only [ints, List.map_cons] at h1 ⊢
      rw [h1]
      congr 1
      exact Int.toNat_of_nonneg h2.1
  have hel : elemsT D = (((prodN (D.map Int.toNat) : Nat) : Int), 0) ∧ prodN (D.map Int.toNat) ≤ 1048576 := by
    unfold elemsT at h ⊢
    rw [if_neg h4] at h ⊢
    by_cases hz : D.contains 0 = true
    · rw [if_pos hz, prodN_nought _ (by rw [← contains_ints, he]; exact hz)]
      exact ⟨rfl, by omega⟩
    · rw [if_neg hz] at h ⊢
      have h6 : prodLoop D D.length 0 1 = ((prodLoop D D.length 0 1).1, 0) := by rw [← h]
      have h7 := prodLoop_eq D D.length 0 1 _ (by omega) (by omega) (by omega) h6
      simp only [List.drop_zero, Int.one_mul] at h7
      have h8 := prodI_ints (D.map Int.toNat)
      rw [he] at h8
      rw [h6, h7.1, h8]
      exact ⟨rfl, by omega⟩
  refine ⟨he.symm, by simp; omega, fun d => ?_, hel.2, hel.1⟩
  rcases Nat.lt_or_ge d D.length with hd | hd
  · have := hge _ (List.getElem_mem hd)
    simp [List.getD_eq_getElem?_getD, hd]; omega
  · simp [List.getD_eq_getElem?_getD, hd]
def cN (d h c : Nat) : Nat := if c * h < d then c * h else d
def startN (E F C : List Nat) : List Nat := (List.range E.length).map fun i => cN (E.getD i 0) (F.getD i 0) (C.getD i 0)
def partN (E F C : List Nat) : List Nat := (List.range E.length).map fun i => min (F.getD i 0) (E.getD i 0 - cN (E.getD i 0) (F.getD i 0) (C.getD i 0))
structure Box (E F S P : List Nat) : Prop where
  lenS : S.length = E.length
  lenF : F.length = E.length
  lenP : P.length = E.length
  shape : ∀ d, P.getD d 0 ≤ F.getD d 0
  room : ∀ d, S.getD d 0 + P.getD d 0 ≤ E.getD d 0
end Go.Proofs.Ytjbjofmcmjojlab.Pure
end
section
namespace Go.Proofs.Ytjbjofmcmjojlab.Pure
open Go.RowKit Go.Proofs.Ytjbjofmcmjojlab.Wk Go.Proofs.YtjbjofmcmjojlabW.PrintWords Go.Proofs.YtjbjofmcmjojlabW.PrintLast Go.Proofs.YtjbjofmcmjojlabW.PrintMore Go.Proofs.YtjbjofmcmjojlabQ
set_option linter.unusedVariables false
set_option linter.unusedSimpArgs false
theorem step_conds {p1 p2 m Z N M x n : Nat} (hZ : 1 ≤ Z) (hm : 1 ≤ m) (h1 : p1 + m ≤ N) (h2 : p2 + m ≤ M) (hx : x = N * Z) (hn : n = M * Z) (hN : N * Z ≤ 65536) (hM : M * Z ≤ 65536) :
    (0 ≤ (p1 : Int) * (Z : Int) ∧ 0 ≤ (p2 : Int) * (Z : Int) ∧ 1 ≤ (m : Int) * (Z : Int) ∧ (p1 : Int) * (Z : Int) + (m : Int) * (Z : Int) ≤ (x : Int) ∧ (p2 : Int) * (Z : Int) + (m : Int) * (Z : Int) ≤ (n : Int) ∧ (p1 : Int) * (Z : Int) + (p2 : Int) * (Z : Int) + (m : Int) * (Z : Int) + (n : Int) ≤ 1000000) := by
  have a1 : (p1 + m) * Z ≤ N * Z := Nat.mul_le_mul_right _ h1
  have a2 : (p2 + m) * Z ≤ M * Z := Nat.mul_le_mul_right _ h2
  have a3 : 1 * 1 ≤ m * Z := Nat.mul_le_mul hm hZ
  rw [Nat.add_mul] at a1 a2
  rw [mul_cast, mul_cast, mul_cast]
  omega
end Go.Proofs.Ytjbjofmcmjojlab.Pure
end
section
namespace Go.Proofs.Ytjbjofmcmjojlab.Pure
open Go.RowKit Go.Proofs.Ytjbjofmcmjojlab.Wk Go.Proofs.YtjbjofmcmjojlabW.PrintWords Go.Proofs.YtjbjofmcmjojlabW.PrintLast Go.Proofs.YtjbjofmcmjojlabW.PrintMore Go.Proofs.YtjbjofmcmjojlabQ
set_option linter.unusedVariables false
set_option linter.unusedSimpArgs false
end Go.Proofs.Ytjbjofmcmjojlab.Pure
end
section
namespace Go.Proofs.Ytjbjofmcmjojlab.Pure
open Go.RowKit Go.Proofs.Ytjbjofmcmjojlab.Wk Go.Proofs.YtjbjofmcmjojlabW.PrintWords Go.Proofs.YtjbjofmcmjojlabW.PrintLast Go.Proofs.YtjbjofmcmjojlabW.PrintMore Go.Proofs.YtjbjofmcmjojlabQ
set_option linter.unusedVariables false
set_option linter.unusedSimpArgs false
def sizedT (z n m : Int) : Int := if z < 1 ∨ 256 < z then 2 else if 65536 < n * z ∨ 65536 < m * z then 3 else 0
theorem wrap_size {n z : Int} (h0 : 0 ≤ n) (h1 : n ≤ 1048576) (hz : 1 ≤ z) (hz2 : z ≤ 256) : wrap64 (n * z) = n * z := by
  have a1 : 0 ≤ n * z := Int.mul_nonneg h0 (by omega)
  have a2 : n * z ≤ 1048576 * 256 := Int.mul_le_mul h1 hz2 (by omega) (by omega)
  generalize n * z = q at *
  unfold wrap64; omega
theorem sized_ev {D H : List Int} {E F : List Nat} (hD : Ext D E) (hH : Ext H F) (z : Int) : Ev (fun k => grid_sized.f k z [D, H]) (sizedT z (prodN E : Nat) (prodN F : Nat)) := by
  have r0 : rd_L1 [D, H] 0 = D := rfl
  have r1 : rd_L1 [D, H] 1 = H := rfl
  have two : ∀ k, grid_sized.j0 (k + 1) z [D, H] true = some 2 := fun k => by simp only [grid_sized.j0, if_true]
  unfold sizedT
  by_cases h1 : z < 1
  · rw [if_pos (.inl h1)]
    refine Ev.congr (f := fun k => grid_sized.j0 k z [D, H] true) (fun k => ?_) (Ev.step two (Ev.now _))
    unfold grid_sized.f
    rw [if_pos h1]
  by_cases h2 : 256 < z
  · rw [if_pos (.inr h2)]
    refine Ev.congr (f := fun k => grid_sized.j0 k z [D, H] true) (fun k => ?_) (Ev.step two (Ev.now _))
    unfold grid_sized.f
    rw [if_neg h1, decide_eq_true h2]
  rw [if_neg (by rintro (h | h) <;> contradiction)]
  have hwD := wrap_size (n := ((prodN E : Nat) : Int)) (by omega) (by have := hD.prod; omega) (show 1 ≤ z by omega) (show z ≤ 256 by omega)
  have hwH := wrap_size (n := ((prodN F : Nat) : Int)) (by omega) (by have := hH.prod; omega) (show 1 ≤ z by omega) (show z ≤ 256 by omega)
  have hD1 : (elemsT D).1 = ((prodN E : Nat) : Int) := by rw [hD.elems]
  have hH1 : (elemsT H).1 = ((prodN F : Nat) : Int) := by rw [hH.elems]
  refine Ev.congr (f := fun k => grid_sized.j0 k z [D, H] false) (fun k => ?_) (Ev.step (f := fun k => grid_sized.l0 k z [D, H] 2 0) (fun k => ?_) ?_)
  · unfold grid_sized.f
    rw [if_neg h1, decide_eq_false h2]
  · simp only [grid_sized.j0, if_neg (show ¬ (false = true) by decide), List.length_cons, List.length_nil]
    rfl
  have e1 : wrap64 ((0 : Int) + 1) = 1 := by unfold wrap64; omega
  have e2 : wrap64 ((1 : Int) + 1) = 2 := by unfold wrap64; omega
  have s0 : ∀ k, grid_sized.l0 (k + 1) z [D, H] 2 0 = if ((prodN E : Nat) : Int) * z > 65536 then some 3 else grid_sized.l0 k z [D, H] 2 1 := by
    intro k
    simp only [grid_sized.l0]
    rw [if_pos (by omega), if_pos (by omega), if_pos (by simp), r0, elements_eq]
    simp only [Option.bind_some]
    rw [hD1, hwD, e1]
  have s1 : ∀ k, grid_sized.l0 (k + 1) z [D, H] 2 1 = if ((prodN F : Nat) : Int) * z > 65536 then some 3 else grid_sized.l0 k z [D, H] 2 2 := by
    intro k
    simp only [grid_sized.l0]
    rw [if_pos (by omega), if_pos (by omega), if_pos (by simp), r1, elements_eq]
    simp only [Option.bind_some]
    rw [hH1, hwH, e2]
  have s2 : ∀ k, grid_sized.l0 (k + 1) z [D, H] 2 2 = some 0 := by
    intro k
    simp only [grid_sized.l0]
    rw [if_neg (by omega)]
  by_cases c1 : 65536 < ((prodN E : Nat) : Int) * z
  · rw [if_pos (.inl c1)]
    exact Ev.step (fun k => (s0 k).trans (if_pos c1)) (Ev.now _)
  · by_cases c2 : 65536 < ((prodN F : Nat) : Int) * z
    · rw [if_pos (.inr c2)]
      exact Ev.step (fun k => (s0 k).trans (if_neg c1)) (Ev.step (fun k => (s1 k).trans (if_pos c2)) (Ev.now _))
    · rw [if_neg (by rintro (h | h) <;> contradiction)]
      exact Ev.step (fun k => (s0 k).trans (if_neg c1)) (Ev.step (fun k => (s1 k).trans (if_neg c2)) (Ev.step s2 (Ev.now _)))
def lastT (D H c : List Int) (z x l : Int) (whole : Bool) : Int := if x = (elemsT D).1 * z ∧ l = (if whole = true then (elemsT H).1 * z else z) ∧ rightT c D.length = true then 0 else 2
def errT (D H c : List Int) (z x l : Int) (whole : Bool) : Int := if fitT D H = 0 then (if sizedT z (elemsT D).1 (elemsT H).1 = 0 then lastT D H c z x l whole else sizedT z (elemsT D).1 (elemsT H).1) else fitT D H
structure Okay (D H c : List Int) (z : Int) (x l : Nat) (whole : Bool) (E F C : List Nat) (Z : Nat) : Prop where
  extD : Ext D E
  extH : Ext H F
  lenF : F.length = E.length
  one : ∀ d, d < F.length → 1 ≤ F.getD d 0
  lenC : C.length = E.length
  co : c = ints C
  size : z = (Z : Int)
  min : 1 ≤ Z ∧ Z ≤ 256
  bigE : prodN E * Z ≤ 65536
  bigF : prodN F * Z ≤ 65536
  lenX : x = prodN E * Z
  lenL : l = if whole = true then prodN F * Z else Z
end Go.Proofs.Ytjbjofmcmjojlab.Pure
end
section
namespace Go.Proofs.Ytjbjofmcmjojlab.Pure
open Go.RowKit Go.Proofs.Ytjbjofmcmjojlab.Wk Go.Proofs.YtjbjofmcmjojlabW.PrintWords Go.Proofs.YtjbjofmcmjojlabW.PrintLast Go.Proofs.YtjbjofmcmjojlabW.PrintMore Go.Proofs.YtjbjofmcmjojlabQ
set_option linter.unusedVariables false
set_option linter.unusedSimpArgs false
def cutList (E F C : List Nat) : List (Nat × Nat) := (lexList (partN E F C)).map fun t => (placeN F t, placeN E (addN t (startN E F C)))
def pasteList (E F C : List Nat) : List (Nat × Nat) := (lexList (partN E F C)).map fun t => (placeN E (addN t (startN E F C)), placeN F t)
def cutR (D H c : List Int) (z : Int) (X L : List Int) : List Int := puts z.toNat X (repB (prodN (H.map Int.toNat)) L) (cutList (D.map Int.toNat) (H.map Int.toNat) (c.map Int.toNat))
def pasteR (D H c : List Int) (z : Int) (Y X : List Int) : List Int := puts z.toNat X Y (pasteList (D.map Int.toNat) (H.map Int.toNat) (c.map Int.toNat))
def cutT (X : List Int) (z : Int) (D H c L : List Int) : List Int × Int := if errT D H c z X.length L.length false = 0 then (cutR D H c z X L, 0) else ([], errT D H c z X.length L.length false)
def pasteT (Y : List Int) (z : Int) (D H c X : List Int) : List Int × Int := if errT D H c z Y.length X.length true = 0 then (pasteR D H c z Y X, 0) else ([], errT D H c z Y.length X.length true)
theorem sized_wraps {D H : List Int} {E F : List Nat} (hD : Ext D E) (hH : Ext H F) {z : Int} (h : sizedT z (elemsT D).1 (elemsT H).1 = 0) : wrap64 ((elemsT D).1 * z) = (elemsT D).1 * z ∧ wrap64 ((elemsT H).1 * z) = (elemsT H).1 * z := by
  have hD1 : (elemsT D).1 = ((prodN E : Nat) : Int) := by rw [hD.elems]
  have hH1 : (elemsT H).1 = ((prodN F : Nat) : Int) := by rw [hH.elems]
  have hz : ¬ (z < 1 ∨ 256 < z) := by
    intro hz
    unfold sizedT at h
    rw [if_pos hz] at h
    exact absurd h (by decide)
  have p1 := hD.prod
  have p2 := hH.prod
  rw [hD1, hH1]
  exact ⟨wrap_size (by omega) (by omega) (by omega) (by omega), wrap_size (by omega) (by omega) (by omega) (by omega)⟩
theorem refused {D H c : List Int} {z x l : Int} {whole : Bool} (h : ¬ errT D H c z x l whole = 0) : (¬ fitT D H = 0 ∧ errT D H c z x l whole = fitT D H) ∨ (fitT D H = 0 ∧ ¬ sizedT z (elemsT D).1 (elemsT H).1 = 0 ∧ errT D H c z x l whole = sizedT z (elemsT D).1 (elemsT H).1) ∨
    (fitT D H = 0 ∧ sizedT z (elemsT D).1 (elemsT H).1 = 0 ∧ ¬ (x = (elemsT D).1 * z ∧ l = (if whole = true then (elemsT H).1 * z else z) ∧ rightT c D.length = true) ∧ errT D H c z x l whole = 2) := by
  unfold errT at h ⊢
  by_cases h0 : fitT D H = 0
  case neg => rw [if_neg h0]; exact .inl ⟨h0, rfl⟩
  rw [if_pos h0] at h ⊢
  by_cases hs : sizedT z (elemsT D).1 (elemsT H).1 = 0
  case neg => rw [if_neg hs]; exact .inr (.inl ⟨h0, hs, rfl⟩)
  rw [if_pos hs] at h ⊢
  unfold lastT at h ⊢
  by_cases hl : x = (elemsT D).1 * z ∧ l = (if whole = true then (elemsT H).1 * z else z) ∧ rightT c D.length = true
  case pos => rw [if_pos hl] at h; exact absurd rfl h
  rw [if_neg hl]
  exact .inr (.inr ⟨h0, hs, hl, rfl⟩)
end Go.Proofs.Ytjbjofmcmjojlab.Pure
end
section
namespace Go.Proofs.Ytjbjofmcmjojlab.Wk
open Go.RowKit Go.Proofs.YtjbjofmcmjojlabW.PrintWords Go.Proofs.YtjbjofmcmjojlabW.PrintLast Go.Proofs.YtjbjofmcmjojlabW.PrintMore
attribute [local go_sem] max2_int min2_int max_two min_two max_three min_three max_four min_four
set_option linter.unusedVariables false
set_option linter.unusedSimpArgs false
mutual
def slabvaultref13_Resize.j0 : Nat → List Int → Int → List Int → List Int → List Int → Int → Int → Bool → Option (List Int × Int)
  | 0, _, _, _, _, _, _, _, _ => none
  | k + 1, x0, x1, x2, x3, x4, x12, x14, x50 => if x50 = true then (some (([] : List Int), 2)) else (if (wrap64 (x12 * x1)) > 65536 then (slabvaultref13_Resize.j1 k x0 x1 x2 x3 x4 x12 x14 true) else (slabvaultref13_Resize.j1 k x0 x1 x2 x3 x4 x12 x14 (decide ((wrap64 (x14 * x1)) > 65536))))
def slabvaultref13_Resize.j1 : Nat → List Int → Int → List Int → List Int → List Int → Int → Int → Bool → Option (List Int × Int)
  | 0, _, _, _, _, _, _, _, _ => none
  | k + 1, x0, x1, x2, x3, x4, x12, x14, x60 => if x60 = true then (some (([] : List Int), 3)) else (if (x0.length : Int) = (wrap64 (x12 * x1)) then (slabvaultref13_Resize.j2 k x0 x1 x2 x3 x4 x14 ((x4.length : Int) != x1)) else (slabvaultref13_Resize.j2 k x0 x1 x2 x3 x4 x14 true))
def slabvaultref13_Resize.j2 : Nat → List Int → Int → List Int → List Int → List Int → Int → Bool → Option (List Int × Int)
  | 0, _, _, _, _, _, _, _ => none
  | k + 1, x0, x1, x2, x3, x4, x14, x72 => if x72 = true then (some (([] : List Int), 2)) else (if x14 = 0 then (some (([] : List Int), 0)) else ((slabvaultref13_tuples.f k x3).bind fun t323 => (slabvaultref13_Resize.l0 k x0 x1 x2 x4 ([] : List Int) t323 0)))
def slabvaultref13_Resize.l0 : Nat → List Int → Int → List Int → List Int → List Int → List (List Int) → Int → Option (List Int × Int)
  | 0, _, _, _, _, _, _, _ => none
  | k + 1, x0, x1, x2, x4, x16, x17, x18 => if x18 < (x17.length : Int) then (slabvaultref13_Resize.l1 k x0 x1 x2 x4 x16 x17 x18 true 0) else (some (x16, 0))
def slabvaultref13_Resize.l1 : Nat → List Int → Int → List Int → List Int → List Int → List (List Int) → Int → Bool → Int → Option (List Int × Int)
  | 0, _, _, _, _, _, _, _, _, _ => none
  | k + 1, x0, x1, x2, x4, x16, x17, x18, x19, x20 => if x20 < (x2.length : Int) then (if x19 = true then (if 0 ≤ x18 then (if x18 < (x17.length : Int) then (if 0 ≤ x20 then (if x20 < ((rd_L1 x17 x18).length : Int) then (slabvaultref13_Resize.l1 k x0 x1 x2 x4 x16 x17 x18 (decide ((rd (rd_L1 x17 x18) x20) < (rd x2 x20))) (wrap64 (x20 + 1))) else (none)) else (none)) else (none)) else (none)) else (slabvaultref13_Resize.l1 k x0 x1 x2 x4 x16 x17 x18 false (wrap64 (x20 + 1)))) else (if x19 = true then (if 0 ≤ x18 then (if x18 < (x17.length : Int) then ((slabvaultref12_Place.f k x2 (rd_L1 x17 x18)).bind fun t330 => (if 0 ≤ (wrap64 (t330 * x1)) then (if (wrap64 (t330 * x1)) ≤ (wrap64 ((wrap64 (t330 * x1)) + x1)) then (if (wrap64 ((wrap64 (t330 * x1)) + x1)) ≤ (x0.length : Int) then (if x16.length + ((x0.take ((wrap64 ((wrap64 (t330 * x1)) + x1)) : Int).toNat).drop ((wrap64 (t330 * x1)) : Int).toNat).length < 140737488355328 then (slabvaultref13_Resize.l0 k x0 x1 x2 x4 (x16 ++ ((x0.take ((wrap64 ((wrap64 (t330 * x1)) + x1)) : Int).toNat).drop ((wrap64 (t330 * x1)) : Int).toNat)) x17 (wrap64 (x18 + 1))) else (none)) else (none)) else (none)) else (none))) else (none)) else (none)) else (if x16.length + x4.length < 140737488355328 then (slabvaultref13_Resize.l0 k x0 x1 x2 x4 (x16 ++ x4) x17 (wrap64 (x18 + 1))) else (none)))
end
def slabvaultref13_Resize.f (k : Nat) (l0 : List Int) (a1 : Int) (l2 : List Int) (l3 : List Int) (l4 : List Int) : Option (List Int × Int) := (slabvaultref12_Elements.f k l2).bind fun bt319 => (if bt319.2 = 0 then ((slabvaultref12_Elements.f k l3).bind fun bt321 => (if bt321.2 = 0 then (if (l2.length : Int) = (l3.length : Int) then (if a1 < 1 then (slabvaultref13_Resize.j0 k l0 a1 l2 l3 l4 bt319.1 bt321.1 true) else (slabvaultref13_Resize.j0 k l0 a1 l2 l3 l4 bt319.1 bt321.1 (decide (a1 > 256)))) else (slabvaultref13_Resize.j0 k l0 a1 l2 l3 l4 bt319.1 bt321.1 true)) else (some (([] : List Int), bt321.2)))) else (some (([] : List Int), bt319.2)))
end Go.Proofs.Ytjbjofmcmjojlab.Wk
end
section
namespace Go.Proofs.Ytjbjofmcmjojlab.Pure
open Go.RowKit Go.Proofs.Ytjbjofmcmjojlab.Wk Go.Proofs.YtjbjofmcmjojlabW.PrintWords Go.Proofs.YtjbjofmcmjojlabW.PrintLast Go.Proofs.YtjbjofmcmjojlabW.PrintMore Go.Proofs.YtjbjofmcmjojlabQ
set_option linter.unusedVariables false
set_option linter.unusedSimpArgs false
def bothN (E F : List Nat) : List Nat := List.zipWith min E F
theorem both_ints : ∀ E F : List Nat, grid_both (ints E) (ints F) = ints (bothN E F)
  | [], F => by simp [grid_both, bothN, ints]
  | e :: E, [] => by simp [grid_both, bothN, ints]
  | e :: E, f :: F => by
    have ih := both_ints E F
    simp only [grid_both, bothN, ints, List.map_cons, List.zipWith_cons_cons] at ih ⊢
    rw [ih]
    congr 1
    show min (e : Int) (f : Int) = ((min e f : Nat) : Int)
    omega
theorem both_getD (E F : List Nat) (h : F.length = E.length) (d : Nat) : (bothN E F).getD d 0 = min (E.getD d 0) (F.getD d 0) := by
  rcases Nat.lt_or_ge d E.length with hd | hd
  · simp [bothN, List.getD_eq_getElem?_getD, List.getElem?_zipWith, hd, show d < F.length by omega]
  · simp [bothN, List.getD_eq_getElem?_getD, List.getElem?_zipWith, hd]
theorem inside_both : ∀ (E F t : List Nat), F.length = E.length → t.length = F.length → (∀ d, d < F.length → t.getD d 0 < F.getD d 0) → insideB E t = insideB (bothN E F) t
  | [], [], [], _, _, _ => rfl
  | e :: E, f :: F, x :: t, h1, h2, h3 => by
    have ih := inside_both E F t (by simpa using h1) (by simpa using h2) (fun d hd => by simpa using h3 (d + 1) (by simpa using hd))
    have h0 : x < f := by simpa using h3 0 (by simp)
    simp only [bothN, List.zipWith_cons_cons, insideB] at ih ⊢
    rw [ih]
    congr 1
    rw [decide_eq_decide]
    omega
  | [], [], x :: t, _, h2, _ => by simp at h2
  | [], f :: F, _, h1, _, _ => by simp at h1
  | e :: E, [], _, h1, _, _ => by simp at h1
  | e :: E, f :: F, [], _, h2, _ => by simp at h2
theorem both_list (E F : List Nat) (h : F.length = E.length) : (lexList F).filter (insideB E) = lexList (bothN E F) := by
  rw [← lex_inside F (bothN E F) (by simp [bothN, h]) (fun d => by rw [both_getD E F h]; omega)]
  apply List.filter_congr
  intro t ht
  have hm := lex_mem F t ht
  exact inside_both E F t h hm.1 hm.2
theorem both_mem {E F t : List Nat} (h : F.length = E.length) (ht : t ∈ lexList (bothN E F)) : t ∈ lexList E ∧ t ∈ lexList F := by
  have hm := lex_mem _ t ht
  have hl : (bothN E F).length = E.length := by simp [bothN, h]
  refine ⟨lex_of E t (by omega) (fun d hd => ?_), lex_of F t (by omega) (fun d hd => ?_)⟩
  · have := hm.2 d (by omega)
    rw [both_getD E F h] at this
    omega
  · have := hm.2 d (by omega)
    rw [both_getD E F h] at this
    omega
theorem res_fold {D H : List Int} {E F : List Nat} (hD : Ext D E) (hH : Ext H F) (h : F.length = E.length) (Z : Nat) (hZ : 1 ≤ Z) (X O : List Int) (hX : X.length = prodN E * Z) (hO : O.length = prodN F * Z) (hN : prodN E * Z ≤ 65536) (hM : prodN F * Z ≤ 65536) (n : Nat) (hn : n = O.length) :
    Ev (fun k => grid_resFold k D (Z : Int) H X n O (rowsOf (ints (bothN E F)))) (puts Z X O ((lexList (bothN E F)).map fun t => (placeN F t, placeN E t))) := by
  unfold grid_resFold
  rw [hD.eq, hH.eq]
  have hl : (bothN E F).length = E.length := by simp [bothN, h]
  refine rows_fold (fun k => grid_resStep k (ints E) (Z : Int) (ints F) X n) Z (prodN F) (prodN E) X (placeN F) (placeN E) (bothN E F) hX (fun s a hs => ⟨by simpa using placeN_last F s a 0 (by omega), by simpa using placeN_last E s a 0 (by omega)⟩) (fun t ht => ⟨valid_place F t (both_mem h ht).2, valid_place E t (both_mem h ht).1⟩) (fun O' t m hO' hm ht h1 h2 => ?_) O hO
  have hmem := both_mem h ht
  unfold grid_resStep
  refine Ev.bind (place_ev E t hD.len hmem.1 hD.prod) (Ev.bind (place_ev F t hH.len hmem.2 hH.prod) ?_)
  have hc := step_conds (p1 := placeN E t) (p2 := placeN F t) hZ hm h2 h1 hX (hn.trans hO) hN hM
  simp only [if_pos hc]
  rw [mul_cast, mul_cast, mul_cast]
  simp only [Int.toNat_natCast]
  exact Ev.now _
def resR (D H : List Int) (z : Int) (X L : List Int) : List Int := puts z.toNat X (repB (prodN (H.map Int.toNat)) L) ((lexList (bothN (D.map Int.toNat) (H.map Int.toNat))).map fun t => (placeN (H.map Int.toNat) t, placeN (D.map Int.toNat) t))
def resT (X : List Int) (z : Int) (D H L : List Int) : List Int × Int :=
  if (elemsT D).2 = 0 then (if (elemsT H).2 = 0 then (if D.length = H.length then (if sizedT z (elemsT D).1 (elemsT H).1 = 0 then (if (X.length : Int) = (elemsT D).1 * z ∧ (L.length : Int) = z then (resR D H z X L, 0) else ([], 2)) else ([], sizedT z (elemsT D).1 (elemsT H).1)) else ([], 2)) else ([], (elemsT H).2)) else ([], (elemsT D).2)
structure OkayR (D H : List Int) (z : Int) (x l : Nat) (E F : List Nat) (Z : Nat) : Prop where
  extD : Ext D E
  extH : Ext H F
  lenF : F.length = E.length
  size : z = (Z : Int)
  min : 1 ≤ Z ∧ Z ≤ 256
  bigE : prodN E * Z ≤ 65536
  bigF : prodN F * Z ≤ 65536
  lenX : x = prodN E * Z
  lenL : l = Z
theorem okayR_of {D H : List Int} {z : Int} {x l : Nat} (h1 : (elemsT D).2 = 0) (h2 : (elemsT H).2 = 0) (h3 : D.length = H.length) (hs : sizedT z (elemsT D).1 (elemsT H).1 = 0) (hl : (x : Int) = (elemsT D).1 * z ∧ (l : Int) = z) : OkayR D H z x l (D.map Int.toNat) (H.map Int.toNat) z.toNat := by
  have hD := ext_of h1
  have hH := ext_of h2
  have hD1 : (elemsT D).1 = ((prodN (D.map Int.toNat) : Nat) : Int) := by rw [hD.elems]
  have hH1 : (elemsT H).1 = ((prodN (H.map Int.toNat) : Nat) : Int) := by rw [hH.elems]
  unfold sizedT at hs
  by_cases hz : z < 1 ∨ 256 < z
  case pos => rw [if_pos hz] at hs; exact absurd hs (by decide)
  rw [if_neg hz] at hs
  by_cases hb : 65536 < (elemsT D).1 * z ∨ 65536 < (elemsT H).1 * z
  case pos => rw [if_pos hb] at hs; exact absurd hs (by decide)
  clear hs
  have hzz : z = (z.toNat : Int) := by omega
  have hz1 : 1 ≤ z.toNat ∧ z.toNat ≤ 256 := by omega
  rw [hD1, hH1, hzz, mul_cast, mul_cast] at hb
  obtain ⟨l1, l2⟩ := hl
  rw [hD1, hzz, mul_cast] at l1
  exact ⟨hD, hH, by simp [h3], hzz, hz1, by omega, by omega, Int.ofNat_inj.1 l1, by omega⟩
theorem resize_ev (X : List Int) (z : Int) (D H L : List Int) : Ev (fun k => grid_Resize.f k X z D H L) (resT X z D H L) := by
  unfold grid_Resize.f resT
  rw [elements_eq, elements_eq]
  simp only [Option.bind_some]
  by_cases h1 : (elemsT D).2 = 0
  case neg =>
    simp only [if_neg h1]
    exact Ev.now _
  by_cases h2 : (elemsT H).2 = 0
  case neg =>
    simp only [if_pos h1, if_neg h2]
    exact Ev.now _
  by_cases h3 : D.length = H.length
  case neg =>
    simp only [if_pos h1, if_pos h2, if_neg h3]
    exact Ev.now _
  simp only [if_pos h1, if_pos h2, if_pos h3]
  have hD := ext_of h1
  have hH := ext_of h2
  have hD1 : (elemsT D).1 = ((prodN (D.map Int.toNat) : Nat) : Int) := by rw [hD.elems]
  have hH1 : (elemsT H).1 = ((prodN (H.map Int.toNat) : Nat) : Int) := by rw [hH.elems]
  have hsz := sized_ev hD hH z
  rw [← hD1, ← hH1] at hsz
  refine Ev.bind hsz ?_
  by_cases hs : sizedT z (elemsT D).1 (elemsT H).1 = 0
  case neg =>
    simp only [if_neg hs]
    exact Ev.now _
  have hw := sized_wraps hD hH hs
  simp only [if_pos hs]
  rw [hw.1]
  by_cases hl : (X.length : Int) = (elemsT D).1 * z ∧ (L.length : Int) = z
  case neg =>
    simp only [if_neg hl]
    exact Ev.now _
  simp only [if_pos hl]
  have ho := okayR_of h1 h2 h3 hs hl
  have hrep : bytes_Repeat.f L (elemsT H).1 = some (repB (prodN (H.map Int.toNat)) L) := by
    unfold bytes_Repeat.f
    rw [hH1]
    have hl := ho.lenL
    have b1 := ho.bigF
    have b2 := ho.min
    have b3 := ho.extH.prod
    rw [Nat.mul_comm] at b1
    rw [if_pos ⟨by omega, by omega, by rw [hl, Int.toNat_natCast]; exact b1, by omega, by omega⟩, Int.toNat_natCast]
  have hcl : slices_Clone_int_int.f D = some D := by
    unfold slices_Clone_int_int.f
    have b1 : D.length ≤ 4 := by rw [ho.extD.eq, ints_length]; exact ho.extD.len
    rw [if_pos (by omega)]
  rw [hrep, hcl]
  simp only [Option.bind_some]
  have hboth : grid_both D H = ints (bothN (D.map Int.toNat) (H.map Int.toNat)) := by
    rw [← both_ints, ← ho.extD.eq, ← ho.extH.eq]
  have hcond : (grid_both D H).length ≤ 4 ∧ ∀ x ∈ grid_both D H, 0 ≤ x ∧ x ≤ 1048576 := by
    rw [hboth]
    refine ⟨by rw [ints_length]; have := ho.extD.len; simp only [bothN, List.length_zipWith]; omega, fun x hx => ?_⟩
    obtain ⟨n, hn, rfl⟩ := List.mem_map.1 hx
    obtain ⟨i, hi, rfl⟩ := List.getElem_of_mem hn
    have g1 := both_getD _ _ ho.lenF i
    have g2 := ho.extD.dim i
    have g3 : (bothN (D.map Int.toNat) (H.map Int.toNat))[i] = (bothN (D.map Int.toNat) (H.map Int.toNat)).getD i 0 := by simp [List.getD_eq_getElem?_getD, hi]
    have g4 : (bothN (D.map Int.toNat) (H.map Int.toNat))[i] ≤ (D.map Int.toNat).getD i 0 := by omega
    exact ⟨Int.natCast_nonneg _, Int.ofNat_le.2 (Nat.le_trans g4 g2)⟩
  simp only [if_pos hcond]
  have hlen : (repB (prodN (H.map Int.toNat)) L).length = prodN (H.map Int.toNat) * z.toNat := by
    rw [repB_length, ho.lenL]
  have hfold := res_fold ho.extD ho.extH ho.lenF z.toNat ho.min.1 X (repB (prodN (H.map Int.toNat)) L) ho.lenX hlen ho.bigE ho.bigF (repB (prodN (H.map Int.toNat)) L).length rfl
  rw [← ho.size, ← hboth] at hfold
  exact Ev.bind hfold (Ev.now _)
end Go.Proofs.Ytjbjofmcmjojlab.Pure
end
section
namespace Go.Proofs.Ytjbjofmcmjojlab.Pure
open Go.RowKit Go.Proofs.Ytjbjofmcmjojlab.Wk Go.Proofs.YtjbjofmcmjojlabW.PrintWords Go.Proofs.YtjbjofmcmjojlabW.PrintLast
set_option linter.unusedVariables false
set_option linter.unusedSimpArgs false
def heavyT (X : List Int) (D H L : List Int) : Bool := decide ((X.length : Int) > 10000) || (decide ((L.length : Int) > 10000) || (decide ((elemsT D).1 > 3000) || decide ((elemsT H).1 > 3000)))
theorem wide_ev (D : List Int) (lD : D.length ≤ 9223372036854775807) : Ev (fun k => slabvaultlaw13_wide.f k D) (decide ((elemsT D).1 > 3000)) := by
  unfold slabvaultlaw13_wide.f
  exact Ev.bind (refElements_ev D lD) (Ev.now _)
theorem heavy_ev (X : List Int) (z : Int) (D H c L : List Int) (lD : D.length ≤ 9223372036854775807) (lH : H.length ≤ 9223372036854775807) : Ev (fun k => slabvaultlaw13_heavy.f k X z D H c L) (heavyT X D H L) := by
  unfold slabvaultlaw13_heavy.f heavyT
  by_cases h1 : (X.length : Int) > 10000
  · simp only [if_pos h1, decide_eq_true h1, Bool.true_or]
    exact Ev.now _
  simp only [if_neg h1, decide_eq_false h1, Bool.false_or]
  by_cases h2 : (L.length : Int) > 10000
  · simp only [if_pos h2, decide_eq_true h2, Bool.true_or]
    exact Ev.now _
  simp only [if_neg h2, decide_eq_false h2, Bool.false_or]
  refine Ev.bind (wide_ev D lD) ?_
  by_cases h3 : (elemsT D).1 > 3000
  · simp only [decide_eq_true h3, Bool.true_or, if_true]
    exact Ev.now _
  simp only [decide_eq_false h3, Bool.false_or, if_neg (show ¬ (false = true) by decide)]
  exact Ev.bind (wide_ev H lH) (Ev.now _)
theorem Ev.both {α β : Type} {f : Nat → Option α} {g : Nat → Option β} {a : α} {b : β} (hf : Ev f a) (hg : Ev g b) : ∃ K, ∀ k, K ≤ k → f k = some a ∧ g k = some b := by
  obtain ⟨K1, h1⟩ := hf
  obtain ⟨K2, h2⟩ := hg
  exact ⟨max K1 K2, fun k hk => ⟨h1 k (by omega), h2 k (by omega)⟩⟩
end Go.Proofs.Ytjbjofmcmjojlab.Pure
end
section
namespace Go.Proofs.Ytjbjofmcmjojlab.Pure
open Go.RowKit Go.Proofs.Ytjbjofmcmjojlab.Wk Go.Proofs.YtjbjofmcmjojlabW.PrintWords Go.Proofs.YtjbjofmcmjojlabW.PrintLast Go.Proofs.YtjbjofmcmjojlabW.PrintMore Go.Proofs.YtjbjofmcmjojlabQ
set_option linter.unusedVariables false
set_option linter.unusedSimpArgs false
theorem both_self : ∀ E F : List Nat, F.length = E.length → (∀ d, E.getD d 0 ≤ F.getD d 0) → bothN F E = E
  | [], [], _, _ => rfl
  | e :: E, f :: F, h, hle => by
    have h0 : e ≤ f := by simpa using hle 0
    have ih := both_self E F (by simpa using h) (fun d => by simpa using hle (d + 1))
    simp only [bothN, List.zipWith_cons_cons] at ih ⊢
    rw [ih]
    congr 1
    omega
  | [], f :: F, h, _ => by simp at h
  | e :: E, [], h, _ => by simp at h
theorem both_self' : ∀ E F : List Nat, F.length = E.length → (∀ d, E.getD d 0 ≤ F.getD d 0) → bothN E F = E
  | [], [], _, _ => rfl
  | e :: E, f :: F, h, hle => by
    have h0 : e ≤ f := by simpa using hle 0
    have ih := both_self' E F (by simpa using h) (fun d => by simpa using hle (d + 1))
    simp only [bothN, List.zipWith_cons_cons] at ih ⊢
    rw [ih]
    congr 1
    omega
  | [], f :: F, h, _ => by simp at h
  | e :: E, [], h, _ => by simp at h
theorem blocks_all {Z N : Nat} {X : List Int} (hX : X.length = N * Z) : ∀ n : Nat, n ≤ N → ((List.range n).flatMap fun p => (X.drop (p * Z)).take Z) = X.take (n * Z)
  | 0, _ => by simp
  | n + 1, h => by
    have bl := block_length (Z := Z) (m := 1) hX (show n + 1 ≤ N from h)
    rw [Nat.one_mul] at bl
    rw [List.range_succ, List.flatMap_append, blocks_all hX n (by omega)]
    simp only [List.flatMap_cons, List.flatMap_nil, List.append_nil]
    rw [Nat.add_mul, Nat.one_mul, List.take_add]
theorem flat_map (F : List Nat) (g : Nat → List Int) : ((lexList F).flatMap fun t => g (placeN F t)) = (List.range (prodN F)).flatMap g := by
  rw [← lex_places F, List.flatMap_map]
theorem grow_back {E F : List Nat} {Z : Nat} (hl : F.length = E.length) (hle : ∀ d, E.getD d 0 ≤ F.getD d 0) {X L : List Int} (hX : X.length = prodN E * Z) (hL : L.length = Z) :
    (puts Z X (repB (prodN F) L) ((lexList (bothN E F)).map fun t => (placeN F t, placeN E t))).length = prodN F * Z ∧
    puts Z (puts Z X (repB (prodN F) L) ((lexList (bothN E F)).map fun t => (placeN F t, placeN E t))) (repB (prodN E) L) ((lexList (bothN F E)).map fun t => (placeN E t, placeN F t)) = X := by
  have hsub : ∀ t ∈ lexList E, t ∈ lexList F := fun t ht => by
    rw [← both_self' E F hl hle] at ht
    exact (both_mem hl ht).2
  have hlen : (puts Z X (repB (prodN F) L) ((lexList (bothN E F)).map fun t => (placeN F t, placeN E t))).length = prodN F * Z := by
    refine puts_length (N := prodN E) hX _ _ (by rw [repB_length, hL]) (fun q hq => ?_)
    obtain ⟨t, ht, rfl⟩ := List.mem_map.1 hq
    have hm := both_mem hl ht
    exact ⟨valid_place F t hm.2, valid_place E t hm.1⟩
  refine ⟨hlen, ?_⟩
  have h1 := fill_puts hlen hL E (insideB F) (placeN F) (lexList E) [] [] rfl (by simp) (fun t ht _ => valid_place F t (hsub t ht))
  rw [both_list F E hl.symm, lex_length] at h1
  simp only [List.nil_append] at h1
  rw [h1]
  have h2 := fill_puts hX hL F (insideB E) (placeN E) (lexList F) [] [] rfl (by simp) (fun t ht hi => valid_place E t (both_mem hl (by
    rw [← both_list E F hl]
    exact List.mem_filter.2 ⟨ht, hi⟩)).1)
  rw [both_list E F hl, lex_length] at h2
  simp only [List.nil_append] at h2
  have key : ∀ t ∈ lexList E, ((puts Z X (repB (prodN F) L) ((lexList (bothN E F)).map fun t => (placeN F t, placeN E t))).drop (placeN F t * Z)).take Z = (X.drop (placeN E t * Z)).take Z := by
    intro t ht
    have htF := hsub t ht
    have hin : insideB E t = true := by
      have : t ∈ (lexList F).filter (insideB E) := by rw [both_list E F hl, both_self' E F hl hle]; exact ht
      exact (List.mem_filter.1 this).2
    obtain ⟨pre, suf, hps⟩ := List.append_of_mem htF
    have hp := lex_index hps
    rw [h2, hps, hp]
    rw [List.flatMap_append, List.flatMap_cons, if_pos hin]
    have hpl : (pre.flatMap fun t => if insideB E t = true then (X.drop (placeN E t * Z)).take Z else L).length = pre.length * Z := by
      have hall : ∀ s ∈ pre, s ∈ lexList F := fun s hs => by rw [hps]; exact List.mem_append_left _ hs
      clear hps hp h2 h1
      induction pre with
      | nil => simp
      | cons s pre ih =>
        have ihp := ih (fun x hx => hall x (List.mem_cons_of_mem _ hx))
        rw [List.flatMap_cons, List.length_append, ihp, List.length_cons, Nat.add_mul, Nat.one_mul]
        have : (if insideB E s = true then (X.drop (placeN E s * Z)).take Z else L).length = Z := by
          by_cases c : insideB E s = true
          · rw [if_pos c]
            have hs : s ∈ lexList (bothN E F) := by
              rw [← both_list E F hl]
              exact List.mem_filter.2 ⟨hall s List.mem_cons_self, c⟩
            have bl := block_length (Z := Z) (m := 1) hX (show placeN E s + 1 ≤ prodN E from valid_place E s (both_mem hl hs).1)
            rwa [Nat.one_mul] at bl
          · rw [if_neg c]; exact hL
        omega
    have bl := block_length (Z := Z) (m := 1) hX (show placeN E t + 1 ≤ prodN E from valid_place E t ht)
    rw [Nat.one_mul] at bl
    rw [← hpl, List.drop_left, List.take_left' bl]
  have step : ((lexList E).flatMap fun t => if insideB F t = true then ((puts Z X (repB (prodN F) L) ((lexList (bothN E F)).map fun t => (placeN F t, placeN E t))).drop (placeN F t * Z)).take Z else L) = (lexList E).flatMap fun t => (X.drop (placeN E t * Z)).take Z := by
    have hinF : ∀ t ∈ lexList E, insideB F t = true := fun t ht => by
      have : t ∈ (lexList E).filter (insideB F) := by rw [both_list F E hl.symm, both_self E F hl hle]; exact ht
      exact (List.mem_filter.1 this).2
    have gen : ∀ l : List (List Nat), (∀ t ∈ l, t ∈ lexList E) → (l.flatMap fun t => if insideB F t = true then ((puts Z X (repB (prodN F) L) ((lexList (bothN E F)).map fun t => (placeN F t, placeN E t))).drop (placeN F t * Z)).take Z else L) = l.flatMap fun t => (X.drop (placeN E t * Z)).take Z := by
      intro l
      induction l with
      | nil => intro _; rfl
      | cons t l ih =>
        intro hall
        rw [List.flatMap_cons, List.flatMap_cons, ih (fun x hx => hall x (List.mem_cons_of_mem _ hx)), if_pos (hinF t (hall t List.mem_cons_self)), key t (hall t List.mem_cons_self)]
    exact gen _ (fun t ht => ht)
  rw [step, flat_map E (fun p => (X.drop (p * Z)).take Z), blocks_all hX (prodN E) (Nat.le_refl _), ← hX, List.take_length]
theorem grow_le : ∀ (D M T : List Int), growTo D M = some T → T.length = D.length ∧ ∀ i : Nat, i < D.length → rd D i ≤ rd T i
  | [], [], T, h => by cases h; simp
  | d :: D, [], T, h => by cases h; simp
  | [], _ :: _, T, h => by cases h; simp
  | d :: D, m :: M, T, h => by
    rw [growTo] at h
    by_cases c : d < 0 ∨ 1048576 < d
    · rw [if_pos c] at h; cases h
    · rw [if_neg c] at h
      obtain ⟨T', h1, rfl⟩ := Option.map_eq_some_iff.1 h
      have ih := grow_le D M T' h1
      refine ⟨by simp [ih.1], fun i hi => ?_⟩
      cases i with
      | zero =>
        have := Int.emod_nonneg m (show (4 : Int) ≠ 0 by decide)
        show d ≤ d + m % 4
        omega
      | succ i =>
        have e : ∀ (x : Int) (l : List Int), rd (x :: l) ((i + 1 : Nat) : Int) = rd l (i : Int) := by
          intro x l
          simp [rd]
        rw [e, e]
        exact ih.2 i (by simpa using hi)
theorem sized_swap (z n m : Int) : sizedT z n m = sizedT z m n := by
  unfold sizedT
  by_cases h : z < 1 ∨ 256 < z
  · rw [if_pos h, if_pos h]
  · rw [if_neg h, if_neg h]
    by_cases h1 : 65536 < n * z ∨ 65536 < m * z
    · rw [if_pos h1, if_pos (h1.symm)]
    · rw [if_neg h1, if_neg (fun h => h1 h.symm)]
theorem resT_bad {X : List Int} {z : Int} {D T L : List Int} (h : (resT X z D T L).2 ≠ 0) : (resT X z D T L).1 = [] := by
  unfold resT at h ⊢
  by_cases a1 : (elemsT D).2 = 0
  case neg => rw [if_neg a1]
  rw [if_pos a1] at h ⊢
  by_cases a2 : (elemsT T).2 = 0
  case neg => rw [if_neg a2]
  rw [if_pos a2] at h ⊢
  by_cases a3 : D.length = T.length
  case neg => rw [if_neg a3]
  rw [if_pos a3] at h ⊢
  by_cases a4 : sizedT z (elemsT D).1 (elemsT T).1 = 0
  case neg => rw [if_neg a4]
  rw [if_pos a4] at h ⊢
  by_cases a5 : (X.length : Int) = (elemsT D).1 * z ∧ (L.length : Int) = z
  case neg => rw [if_neg a5]
  rw [if_pos a5] at h
  exact absurd rfl h
theorem GridGrows (X : List Int) (z : Int) (D H c L M : List Int) (lD : D.length ≤ maxLen) (lH : H.length ≤ maxLen) : ∃ k, GrowP k X z D H c L M := by
  have hm : maxLen = 9223372036854775807 := rfl
  obtain ⟨K0, h0⟩ := heavy_ev X z D H c L (by omega) (by omega)
  cases hT : growTo D M with
  | none => exact ⟨K0, _, h0 _ (Nat.le_refl _), fun _ T hT' => by rw [hT] at hT'; cases hT'⟩
  | some T =>
    have hg := grow_le D M T hT
    obtain ⟨K1, h1⟩ := wide_ev T (by omega)
    have hr := resize_ev X z D T L
    have fin : ∀ (K : Nat) (r : List Int) (e : Int), (∀ k, K ≤ k → grid_Resize.f k X z D T L = some (r, e)) → (∀ k, K ≤ k → (e ≠ 0 ∧ r = []) ∨ (e = 0 ∧ grid_Resize.f k r z T D L = some (X, 0) ∧ ∃ n ne, slabvaultref12_Elements.f k T = some (n, ne) ∧ (r.length : Int) = wrap64 (n * z))) → ∃ k, GrowP k X z D H c L M := by
      intro K r e g1 g2
      refine ⟨max K0 (max K1 K), _, h0 _ (by omega), fun _ T' hT' => ?_⟩
      rw [hT] at hT'
      cases hT'
      exact ⟨_, h1 _ (by omega), fun _ => ⟨r, e, g1 _ (by omega), g2 _ (by omega)⟩⟩
    by_cases e0 : (resT X z D T L).2 = 0
    case neg =>
      obtain ⟨K, g⟩ := hr
      refine fin K (resT X z D T L).1 (resT X z D T L).2 g (fun k _ => .inl ⟨e0, resT_bad e0⟩)
    have hall : (elemsT D).2 = 0 ∧ (elemsT T).2 = 0 ∧ D.length = T.length ∧ sizedT z (elemsT D).1 (elemsT T).1 = 0 ∧ ((X.length : Int) = (elemsT D).1 * z ∧ (L.length : Int) = z) ∧ resT X z D T L = (resR D T z X L, 0) := by
      unfold resT at e0 ⊢
      by_cases a1 : (elemsT D).2 = 0
      case neg => rw [if_neg a1] at e0; exact absurd e0 a1
      rw [if_pos a1] at e0 ⊢
      by_cases a2 : (elemsT T).2 = 0
      case neg => rw [if_neg a2] at e0; exact absurd e0 a2
      rw [if_pos a2] at e0 ⊢
      rw [if_pos hg.1.symm] at e0 ⊢
      by_cases a3 : sizedT z (elemsT D).1 (elemsT T).1 = 0
      case neg => rw [if_neg a3] at e0; exact absurd e0 a3
      rw [if_pos a3] at e0 ⊢
      by_cases a4 : (X.length : Int) = (elemsT D).1 * z ∧ (L.length : Int) = z
      case neg => rw [if_neg a4] at e0; exact absurd e0 (by decide)
      rw [if_pos a4]
      exact ⟨a1, a2, hg.1.symm, a3, a4, rfl⟩
    obtain ⟨a1, a2, a3, a4, a5, a6⟩ := hall
    have ho := okayR_of a1 a2 a3 a4 a5
    have hle : ∀ d, (D.map Int.toNat).getD d 0 ≤ (T.map Int.toNat).getD d 0 := by
      intro d
      rcases Nat.lt_or_ge d D.length with hd | hd
      · have h3 := hg.2 d hd
        rw [rd_nat D d hd, rd_nat T d (by omega)] at h3
        simp [List.getD_eq_getElem?_getD, hd, show d < T.length by omega]
        omega
      · simp [List.getD_eq_getElem?_getD, hd]
    have hback := grow_back (E := D.map Int.toNat) (F := T.map Int.toNat) (Z := z.toNat) ho.lenF hle ho.lenX ho.lenL
    have lr : (resR D T z X L).length = prodN (T.map Int.toNat) * z.toNat := hback.1
    have hT1 : (elemsT T).1 = ((prodN (T.map Int.toNat) : Nat) : Int) := by rw [ho.extH.elems]
    have lz : ((resR D T z X L).length : Int) = (elemsT T).1 * z := by
      have e := ho.size
      rw [lr, hT1]
      generalize z.toNat = Z at e
      rw [e, mul_cast]
    have hrr : resT (resR D T z X L) z T D L = (X, 0) := by
      unfold resT
      rw [if_pos a2, if_pos a1, if_pos a3.symm, sized_swap, if_pos a4, if_pos ⟨lz, a5.2⟩]
      congr 1
      exact hback.2
    have hr2 := resize_ev (resR D T z X L) z T D L
    rw [hrr] at hr2
    rw [a6] at hr
    obtain ⟨K2, g2⟩ := hr
    obtain ⟨K3, g3⟩ := hr2
    obtain ⟨K4, g4⟩ := refElements_ev T (by omega)
    have hw := (sized_wraps ho.extD ho.extH a4).2
    exact fin (max K2 (max K3 K4)) _ 0 (fun k hk => g2 k (by omega)) (fun k hk => .inr ⟨rfl, g3 k (by omega), (elemsT T).1, (elemsT T).2, g4 k (by omega), by rw [hw]; exact lz⟩)
end Go.Proofs.Ytjbjofmcmjojlab.Pure
end
