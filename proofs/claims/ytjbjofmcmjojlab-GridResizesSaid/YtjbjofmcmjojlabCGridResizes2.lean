-- Texts that the row GridResizes leans on, joined by wip/tools/mkclaim.py: Wk21, Wk22, Wk25, Wk26, Wk27, Wk36, Wk37, Wk38, Wk39, Wk40, Wk41, Wk47, Wk48, Wk43, Wk45, Wk52, Wk53, Wk1, Wk28
import Derived.Test.YtjbjofmcmjojlabCGridResizes1
section
namespace Go.Proofs.Ytjbjofmcmjojlab.Wk
open Go.RowKit Go.Proofs.YtjbjofmcmjojlabW.PrintWords Go.Proofs.YtjbjofmcmjojlabW.PrintLast Go.Proofs.YtjbjofmcmjojlabW.PrintMore
attribute [local go_sem] max2_int min2_int max_two min_two max_three min_three max_four min_four
set_option linter.unusedVariables false
set_option linter.unusedSimpArgs false
section
open Go.Proofs.YtjbjofmcmjojlabQ
structure grid_Cut1Mem (BD : Nat) (AD : Option Addr) (cD : Nat) (D : List Int) (BS : Nat) (AS : Option Addr) (cS : Nat) (S : List Int) (BZ : Nat) (z : Int) (BH : Nat) (AH : Option Addr) (cH : Nat) (H : List Int) (BO : Nat) (g n cO : Nat) (BX : Nat) (aX : Addr) (cX : Nat) (X : List Int) (W : World) : Prop where
  bD : W.cell? ⟨BD, 0, none⟩ = some (.slice AD D.length cD)
  bS : W.cell? ⟨BS, 0, none⟩ = some (.slice AS S.length cS)
  bZ : W.cell? ⟨BZ, 0, none⟩ = some (.int .i64 z)
  bH : W.cell? ⟨BH, 0, none⟩ = some (.slice AH H.length cH)
  bO : W.cell? ⟨BO, 0, none⟩ = some (.slice (some ⟨g, 0, none⟩) n cO)
  bX : W.cell? ⟨BX, 0, none⟩ = some (.slice (some aX) X.length cX)
  rD : (Kd.int .i64).C W AD D.length D
  lD : D.length ≤ cD
  rS : (Kd.int .i64).C W AS S.length S
  lS : S.length ≤ cS
  rH : (Kd.int .i64).C W AH H.length H
  lH : H.length ≤ cH
  lO : n ≤ cO
  rX : (Kd.int .u8).C W (some aX) X.length X
  lX : X.length ≤ cX
theorem grid_Cut1.small (x : Nat) (h : x ≤ 1000000) : wrap64 (x : Int) = (x : Int) := by unfold wrap64; omega
theorem grid_Cut1.big (a b c n : Nat) (h : a + b + c + n ≤ 1000000) : a ≤ 1000000 ∧ b ≤ 1000000 ∧ c ≤ 1000000 ∧ a + c ≤ 1000000 := by omega
theorem grid_Cut1.arith (a b c n hi cX L cO : Nat) (h0 : n ≤ cO) (h1 : a + c ≤ L) (h2 : b + c ≤ n) (h3 : 1 ≤ c) (h4 : L ≤ cX) (h5 : a + c = hi) : (b : Int) ≤ (n : Int) ∧ (a : Int) ≤ (hi : Int) ∧ (hi : Int) ≤ (cX : Int) ∧ ((cO = b) = False) ∧ (n : Int) ≤ (cO : Int) ∧ ((cX = a) = False) := ⟨by omega, by omega, by omega, eq_false (by omega), by omega, eq_false (by omega)⟩
set_option maxHeartbeats 4000000 in
set_option maxRecDepth 10000 in
theorem grid_Cut1.calls (k0 k1 k2 : Nat) (BD : Nat) (AD : Option Addr) (cD : Nat) (D : List Int) (BS : Nat) (AS : Option Addr) (cS : Nat) (S : List Int) (BZ : Nat) (z : Int) (BH : Nat) (AH : Option Addr) (cH : Nat) (H : List Int) (BO : Nat) (g n cO : Nat) (BX : Nat) (aX : Addr) (cX : Nat) (X : List Int) (A0 : Option Addr) (c0 : Nat) (at_ : List Int) (m : Int) (mv : List Int) (p1 p2 : Int) (a b c base : Nat) (O : List Int) (ok : Nat → Prop) (W : World)
    (hM : Foot (grid_Cut1Mem BD AD cD D BS AS cS S BZ z BH AH cH H BO g n cO BX aX cX X) W ok) (hok : ∀ k, ok k → k ≠ g) (hg : g < base) (hbase : base ≤ W.heap.size) (hB : Buf 5 W g n O) (hO : O.length = n)
    (hr0 : (Kd.int .i64).C W A0 at_.length at_) (hc0 : at_.length ≤ c0) (h0 : grid_moved.f k0 at_ S = some mv) (h1 : grid_place.f k1 D mv = some p1) (h2 : grid_place.f k2 H at_ = some p2)
    (ha : p1 * z = (a : Int)) (hb : p2 * z = (b : Int)) (hc : m * z = (c : Int)) (hc1 : 1 ≤ c) (hac : a + c ≤ X.length) (hbc : b + c ≤ n) (hbig : a + b + c + n ≤ 1000000) :
    Calls Try.prog 41 (#[.slice A0 at_.length c0, .int .i64 m] ++ #[.pointer (some ⟨BD, 0, none⟩), .pointer (some ⟨BS, 0, none⟩), .pointer (some ⟨BZ, 0, none⟩), .pointer (some ⟨BH, 0, none⟩), .pointer (some ⟨BO, 0, none⟩), .pointer (some ⟨BX, 0, none⟩)]) W fun e W' => e = .returned (.tuple #[]) ∧ Buf 5 W' g n (laid O b ((X.drop a).take c)) ∧ Foot (grid_Cut1Mem BD AD cD D BS AS cS S BZ z BH AH cH H BO g n cO BX aX cX X) W' ok ∧ W.grownBy W' (some g) := by
  have HM := Aside0.mk hM
  have HB := Aside0.mk hB
  have HR := Aside0.mk hr0
  have HC := Aside0.mk hc0
  have H0 := Aside0.mk h0
  have H1 := Aside0.mk h1
  have H2 := Aside0.mk h2
  have AR := Aside0.mk (show a + c ≤ X.length ∧ b + c ≤ n ∧ 1 ≤ c ∧ a + b + c + n ≤ 1000000 ∧ g < base ∧ base ≤ W.heap.size from ⟨hac, hbc, hc1, hbig, hg, hbase⟩)
  have HOK := Aside0.mk hok
  have HO := Aside0.mk hO
  have BIG := grid_Cut1.big a b c n hbig
  have wz : ∀ x : Nat, x ≤ 1000000 → wrap64 (x : Int) = (x : Int) := grid_Cut1.small
  have wa : wrap64 (p1 * z) = (a : Int) := by rw [ha]; exact wz a BIG.1
  have wb : wrap64 (p2 * z) = (b : Int) := by rw [hb]; exact wz b BIG.2.1
  have wc : wrap64 (m * z) = (c : Int) := by rw [hc]; exact wz c BIG.2.2.1
  obtain ⟨hi, hhi⟩ : ∃ hi, a + c = hi := ⟨_, rfl⟩
  have wd : wrap64 ((a : Int) + (c : Int)) = (hi : Int) := by rw [← hhi]; exact wz (a + c) BIG.2.2.2
  have hmem := hM.now
  have hcX := hmem.lX
  have i1 : (0 : Int) ≤ (b : Int) := Int.natCast_nonneg _
  have i3 : (0 : Int) ≤ (a : Int) := Int.natCast_nonneg _
  obtain ⟨i2, i4, i5, e1, i6, e2⟩ := grid_Cut1.arith a b c n hi cX _ cO hmem.lO hac hbc hc1 hcX hhi
  have HHI := Aside0.mk hhi
  have HCX := Aside0.mk hcX
  have HMEM := Aside0.mk hmem
  clear hM hok hg hbase hB hO hr0 hc0 h0 h1 h2 ha hb hc hc1 hac hbc hbig hhi hcX hmem
  show Calls Try.prog 41 #[.slice A0 at_.length c0, .int .i64 m, .pointer (some ⟨BD, 0, none⟩), .pointer (some ⟨BS, 0, none⟩), .pointer (some ⟨BZ, 0, none⟩), .pointer (some ⟨BH, 0, none⟩), .pointer (some ⟨BO, 0, none⟩), .pointer (some ⟨BX, 0, none⟩)] W _
  go_enter Try.func41, Try.ntmps41
  go_upto_region 0 with (fail)
  refine start_ (n := 14) (S := fun W' => Below W.heap.size W W' ∧ grid_Cut1Mem BD AD cD D BS AS cS S BZ z BH AH cH H BO g n cO BX aX cX X W') (ds := []) #[false, false, false, false, false, false, false, false, false, false, false, false, false, false] (by kernel_rfl) rfl rfl ⟨below_drew (Below.refl _ _), HM.out W.drew (fun _ _ _ => rfl)⟩ (fun hHeld => ?_)
  refine pure_ (i := 1) (N := some 13) (v := ?_) (a' := ?_) #[false, true, false, false, false, false, false, false, false, false, false, false, false, false] rfl rfl (by kernel_rfl) (fun _ _ _ h => h) (Or.inl ⟨by rfl, ?_⟩) ?_ ?_
  rotate_left
  · intro w'
    go_simp
    with_reducible rfl
  rotate_left
  · simp only [Act.put, List.setIfInBounds_toArray, List.set_cons_zero, List.set_cons_succ, i64_w, i32_w]
    rfl
  refine pure_ (i := 8) (N := some 20) (v := ?_) (a' := ?_) #[false, true, false, false, false, false, false, false, true, false, false, false, false, false] rfl rfl (by kernel_rfl) (fun _ _ _ h => h) (Or.inl ⟨by rfl, ?_⟩) ?_ ?_
  rotate_left
  · intro w'
    go_simp
    with_reducible rfl
  rotate_left
  · simp only [Act.put, List.setIfInBounds_toArray, List.set_cons_zero, List.set_cons_succ, i64_w, i32_w]
    rfl
  refine take_ (i := 0) (N := some 12) (v := ?_) (a' := ?_) #[true, true, false, false, false, false, false, false, true, false, false, false, false, false] rfl rfl (by kernel_rfl) (fun _ _ _ h => h) (Or.inl ⟨by rfl, ?_⟩) hHeld ?_ ?_
  rotate_left
  · rintro w' ⟨hB_, ⟨bD_, bS_, bZ_, bH_, bO_, bX_, rD_, lD_, rS_, lS_, rH_, lH_, lO_, rX_, lX_⟩⟩
    go_simp
    with_reducible rfl
  rotate_left
  · simp only [Act.put, List.setIfInBounds_toArray, List.set_cons_zero, List.set_cons_succ, i64_w, i32_w]
    rfl
  refine take_ (i := 2) (N := some 14) (v := ?_) (a' := ?_) #[true, true, true, false, false, false, false, false, true, false, false, false, false, false] rfl rfl (by kernel_rfl) (fun _ _ _ h => h) (Or.inl ⟨by rfl, ?_⟩) hHeld ?_ ?_
  rotate_left
  · rintro w' ⟨hB_, ⟨bD_, bS_, bZ_, bH_, bO_, bX_, rD_, lD_, rS_, lS_, rH_, lH_, lO_, rX_, lX_⟩⟩
    go_simp
    with_reducible rfl
  rotate_left
  · simp only [Act.put, List.setIfInBounds_toArray, List.set_cons_zero, List.set_cons_succ, i64_w, i32_w]
    rfl
  refine take_ (i := 5) (N := some 17) (v := ?_) (a' := ?_) #[true, true, true, false, false, true, false, false, true, false, false, false, false, false] rfl rfl (by kernel_rfl) (fun _ _ _ h => h) (Or.inl ⟨by rfl, ?_⟩) hHeld ?_ ?_
  rotate_left
  · rintro w' ⟨hB_, ⟨bD_, bS_, bZ_, bH_, bO_, bX_, rD_, lD_, rS_, lS_, rH_, lH_, lO_, rX_, lX_⟩⟩
    go_simp
    with_reducible rfl
  rotate_left
  · simp only [Act.put, List.setIfInBounds_toArray, List.set_cons_zero, List.set_cons_succ, i64_w, i32_w]
    rfl
  refine take_ (i := 7) (N := some 19) (v := ?_) (a' := ?_) #[true, true, true, false, false, true, false, true, true, false, false, false, false, false] rfl rfl (by kernel_rfl) (fun _ _ _ h => h) (Or.inl ⟨by rfl, ?_⟩) hHeld ?_ ?_
  rotate_left
  · rintro w' ⟨hB_, ⟨bD_, bS_, bZ_, bH_, bO_, bX_, rD_, lD_, rS_, lS_, rH_, lH_, lO_, rX_, lX_⟩⟩
    go_simp
    with_reducible rfl
  rotate_left
  · simp only [Act.put, List.setIfInBounds_toArray, List.set_cons_zero, List.set_cons_succ, i64_w, i32_w]
    rfl
  refine take_ (i := 10) (N := some 22) (v := ?_) (a' := ?_) #[true, true, true, false, false, true, false, true, true, false, true, false, false, false] rfl rfl (by kernel_rfl) (fun _ _ _ h => h) (Or.inl ⟨by rfl, ?_⟩) hHeld ?_ ?_
  rotate_left
  · rintro w' ⟨hB_, ⟨bD_, bS_, bZ_, bH_, bO_, bX_, rD_, lD_, rS_, lS_, rH_, lH_, lO_, rX_, lX_⟩⟩
    go_simp
    with_reducible rfl
  rotate_left
  · simp only [Act.put, List.setIfInBounds_toArray, List.set_cons_zero, List.set_cons_succ, i64_w, i32_w]
    rfl
  refine one_ (i := 3) (N := some 15) #[true, true, true, true, false, true, false, true, true, false, true, false, false, false] rfl rfl (by kernel_rfl) (by decide) (fun K hK => ?_)
  skip
  refine goes_ Try.func43 (by kernel_rfl) rfl #[.slice A0 at_.length c0, .slice AS S.length cS] (by rfl) rfl rfl (by (simp only [List.map_toArray, List.map_cons, List.map_nil]); rfl) ?_
  refine (grid_moved.calls k0 A0 c0 at_ AS cS S mv _ (Kd.C_below HR.out hHeld.1) (HC.out) (hHeld.2.rS) (hHeld.2.lS) H0.out).mono ?_
  rintro e_ W0 ⟨v_, rfl, hv, hb⟩
  obtain ⟨Av, cv, rfl⟩ := Kd.R_slice hv
  have HV := Aside0.mk hv
  clear hv
  have hBn := below_then hHeld.1 hHeld.1.size hb
  clear hb
  refine ⟨_, rfl, ?_⟩
  refine hK.out _ _ ⟨hBn, HM.out _ (fun k _ hlt => hBn.block k hlt)⟩ (fun hHeld => ?_)
  clear hK K hBn
  refine norm_ (a' := ?_) ?_ ?_
  rotate_left
  · show Act.put _ (some 15) _ = _
    simp only [Act.put, List.setIfInBounds_toArray, List.set_cons_zero, List.set_cons_succ, i64_w, i32_w]
    rfl
  refine one_ (i := 4) (N := some 16) #[true, true, true, true, true, true, false, true, true, false, true, false, false, false] rfl rfl (by kernel_rfl) (by decide) (fun K hK => ?_)
  skip
  refine goes_ Try.func42 (by kernel_rfl) rfl #[.slice AD D.length cD, .slice Av mv.length cv] (by rfl) rfl rfl (by (simp only [List.map_toArray, List.map_cons, List.map_nil]); rfl) ?_
  refine (grid_place.calls k1 AD cD D Av cv mv p1 _ (hHeld.2.rD) (hHeld.2.lD) ((Kd.R_reads' HV.out).2.2) ((Kd.R_reads' HV.out).2.1) H1.out).mono ?_
  rintro e_ W1 ⟨rfl, ⟨q1, rfl⟩⟩
  have hBn := pw_below_drewN hHeld.1 q1
  have HV' := Aside0.mk (Kd.R_drewN HV.out q1)
  clear HV
  have HV := HV'
  clear HV'
  refine ⟨_, rfl, ?_⟩
  refine hK.out _ _ ⟨hBn, HM.out _ (fun k _ hlt => hBn.block k hlt)⟩ (fun hHeld => ?_)
  clear hK K hBn
  refine norm_ (a' := ?_) ?_ ?_
  rotate_left
  · show Act.put _ (some 16) _ = _
    simp only [Act.put, List.setIfInBounds_toArray, List.set_cons_zero, List.set_cons_succ, i64_w, i32_w]
    rfl
  refine pure_ (i := 6) (N := some 18) (v := ?_) (a' := ?_) #[true, true, true, true, true, true, true, true, true, false, true, false, false, false] rfl rfl (by kernel_rfl) (fun _ _ _ h => h) (Or.inl ⟨by rfl, ?_⟩) ?_ ?_
  rotate_left
  · intro w'
    go_simp
    with_reducible rfl
  rotate_left
  · simp only [Act.put, List.setIfInBounds_toArray, List.set_cons_zero, List.set_cons_succ, i64_w, i32_w]
    rfl
  refine one_ (i := 9) (N := some 21) #[true, true, true, true, true, true, true, true, true, true, true, false, false, false] rfl rfl (by kernel_rfl) (by decide) (fun K hK => ?_)
  skip
  refine goes_ Try.func42 (by kernel_rfl) rfl #[.slice AH H.length cH, .slice A0 at_.length c0] (by rfl) rfl rfl (by (simp only [List.map_toArray, List.map_cons, List.map_nil]); rfl) ?_
  refine (grid_place.calls k2 AH cH H A0 c0 at_ p2 _ (hHeld.2.rH) (hHeld.2.lH) (Kd.C_below HR.out hHeld.1) (HC.out) H2.out).mono ?_
  rintro e_ W2 ⟨rfl, ⟨q2, rfl⟩⟩
  have hBn := pw_below_drewN hHeld.1 q2
  have HV' := Aside0.mk (Kd.R_drewN HV.out q2)
  clear HV
  have HV := HV'
  clear HV'
  refine ⟨_, rfl, ?_⟩
  refine hK.out _ _ ⟨hBn, HM.out _ (fun k _ hlt => hBn.block k hlt)⟩ (fun hHeld => ?_)
  clear hK K hBn
  refine norm_ (a' := ?_) ?_ ?_
  rotate_left
  · show Act.put _ (some 21) _ = _
    simp only [Act.put, List.setIfInBounds_toArray, List.set_cons_zero, List.set_cons_succ, i64_w, i32_w]
    rfl
  refine pure_ (i := 11) (N := some 23) (v := ?_) (a' := ?_) #[true, true, true, true, true, true, true, true, true, true, true, true, false, false] rfl rfl (by kernel_rfl) (fun _ _ _ h => h) (Or.inl ⟨by rfl, ?_⟩) ?_ ?_
  rotate_left
  · intro w'
    go_simp
    with_reducible rfl
  rotate_left
  · simp only [Act.put, List.setIfInBounds_toArray, List.set_cons_zero, List.set_cons_succ, i64_w, i32_w]
    rfl
  refine pure_ (i := 12) (N := some 10) (v := ?_) (a' := ?_) #[true, true, true, true, true, true, true, true, true, true, true, true, true, false] rfl rfl (by kernel_rfl) (fun _ _ _ h => h) (Or.inl ⟨by rfl, ?_⟩) ?_ ?_
  rotate_left
  · intro w'
    go_simp
    with_reducible rfl
  rotate_left
  · simp only [Act.put, List.setIfInBounds_toArray, List.set_cons_zero, List.set_cons_succ, i64_w, i32_w]
    rfl
  refine pure_ (i := 13) (N := some 11) (v := ?_) (a' := ?_) #[true, true, true, true, true, true, true, true, true, true, true, true, true, true] rfl rfl (by kernel_rfl) (fun _ _ _ h => h) (Or.inl ⟨by rfl, ?_⟩) ?_ ?_
  rotate_left
  · intro w'
    go_simp
    with_reducible rfl
  rotate_left
  · simp only [Act.put, List.setIfInBounds_toArray, List.set_cons_zero, List.set_cons_succ, i64_w, i32_w]
    rfl
  refine done_ (by kernel_rfl) ?_
  go_wp2
  have HB0 := Aside0.mk hHeld.1
  clear hHeld
  generalize hWr : (((W0).drewN q1).drewN q2) = Wr at HB0 ⊢
  have BF : Buf 5 Wr.drew g n O := HB.out.step (HB0.out.block g (by have := AR.out; omega))
  have MEM : grid_Cut1Mem BD AD cD D BS AS cS S BZ z BH AH cH H BO g n cO BX aX cX X Wr := HM.out _ (fun k _ hlt => HB0.out.block k hlt)
  have HMW := Aside0.mk MEM
  have hlen : ((X.drop a).take c).length = c := by have := AR.out; simp; omega
  obtain ⟨W2, hr2, B2, hg2⟩ := BF.copy (P := Try.prog) (t := 31) (t' := 31) (ty := 3) (o := b) (dLen := n - b) (dCap := cO - b) (m := hi - a) (c := cX - a) (ad := aX.add a) (ys := (X.drop a).take c) Try.underlying31 (by kernel_rfl) (by have := AR.out; have := HO.out; omega) (by rw [hlen]; have := AR.out; have := HHI.out; omega) (by rw [hlen]; have := AR.out; omega)
    (fun j hj => by
      rw [hlen] at hj
      obtain ⟨_, _, hx⟩ := Kd.reads_of_C (d := (0 : Int)) HMW.out.rX
      obtain ⟨ad, e, hx⟩ := hx (by have := AR.out; omega)
      cases e
      have h2 := hx (a + j) (by have := AR.out; omega)
      rw [show (aX.add a).add j = aX.add (a + j) from Addr.add_add _ _ _]
      refine Eq.trans h2 ?_
      simp [List.getD_eq_getElem?_getD, List.getElem?_take, hj])
  rw [hlen] at hr2
  have B2' := Aside0.mk B2
  have G2 := Aside0.mk hg2
  clear BF MEM hlen B2 hg2
  have FS := Aside0.mk (show Foot (grid_Cut1Mem BD AD cD D BS AS cS S BZ z BH AH cH H BO g n cO BX aX cX X) W2 ok from HM.out.step (fun k hk hlt => (G2.out.block k (Nat.lt_of_lt_of_le hlt HB0.out.size) (by have := HOK.out k hk; simpa using this)).trans (HB0.out.block k hlt)))
  refine start_ (n := 12) (S := fun W' => grid_Cut1Mem BD AD cD D BS AS cS S BZ z BH AH cH H BO g n cO BX aX cX X W') (ds := []) #[false, false, false, false, false, false, false, false, false, false, false, false] (by kernel_rfl) rfl rfl (HM.out _ (fun k _ hlt => HB0.out.block k hlt)) (fun hHeld => ?_)
  refine take_ (i := 0) (N := some 24) (v := ?_) (a' := ?_) #[true, false, false, false, false, false, false, false, false, false, false, false] rfl rfl (by kernel_rfl) (fun _ _ _ h => h) (Or.inl ⟨by rfl, ?_⟩) hHeld ?_ ?_
  rotate_left
  · rintro w' ⟨bD_, bS_, bZ_, bH_, bO_, bX_, rD_, lD_, rS_, lS_, rH_, lH_, lO_, rX_, lX_⟩
    go_simp
    with_reducible rfl
  rotate_left
  · simp only [Act.put, List.setIfInBounds_toArray, List.set_cons_zero, List.set_cons_succ, i64_w, i32_w]
    rfl
  refine pure_ (i := 1) (N := some 25) (v := ?_) (a' := ?_) #[true, true, false, false, false, false, false, false, false, false, false, false] rfl rfl (by kernel_rfl) (fun _ _ _ h => h) (Or.inl ⟨by rfl, ?_⟩) ?_ ?_
  rotate_left
  · intro w'
    go_simp
    with_reducible rfl
  rotate_left
  · simp only [Act.put, List.setIfInBounds_toArray, List.set_cons_zero, List.set_cons_succ, i64_w, i32_w]
    rfl
  refine take_ (i := 3) (N := some 27) (v := ?_) (a' := ?_) #[true, true, false, true, false, false, false, false, false, false, false, false] rfl rfl (by kernel_rfl) (fun _ _ _ h => h) (Or.inl ⟨by rfl, ?_⟩) hHeld ?_ ?_
  rotate_left
  · rintro w' ⟨bD_, bS_, bZ_, bH_, bO_, bX_, rD_, lD_, rS_, lS_, rH_, lH_, lO_, rX_, lX_⟩
    go_simp
    with_reducible rfl
  rotate_left
  · simp only [Act.put, List.setIfInBounds_toArray, List.set_cons_zero, List.set_cons_succ, i64_w, i32_w]
    rfl
  refine pure_ (i := 4) (N := some 28) (v := ?_) (a' := ?_) #[true, true, false, true, true, false, false, false, false, false, false, false] rfl rfl (by kernel_rfl) (fun _ _ _ h => h) (Or.inl ⟨by rfl, ?_⟩) ?_ ?_
  rotate_left
  · intro w'
    go_simp
    with_reducible rfl
  rotate_left
  · simp only [Act.put, List.setIfInBounds_toArray, List.set_cons_zero, List.set_cons_succ, i64_w, i32_w]
    rfl
  refine pure_ (i := 5) (N := some 29) (v := ?_) (a' := ?_) #[true, true, false, true, true, true, false, false, false, false, false, false] rfl rfl (by kernel_rfl) (fun _ _ _ h => h) (Or.inl ⟨by rfl, ?_⟩) ?_ ?_
  rotate_left
  · intro w'
    go_simp
    with_reducible rfl
  rotate_left
  · simp only [Act.put, List.setIfInBounds_toArray, List.set_cons_zero, List.set_cons_succ, i64_w, i32_w]
    rfl
  refine pure_ (i := 6) (N := some 30) (v := ?_) (a' := ?_) #[true, true, false, true, true, true, true, false, false, false, false, false] rfl rfl (by kernel_rfl) (fun _ _ _ h => h) (Or.inl ⟨by rfl, ?_⟩) ?_ ?_
  rotate_left
  · intro w'
    go_simp
    with_reducible rfl
  rotate_left
  · simp only [Act.put, List.setIfInBounds_toArray, List.set_cons_zero, List.set_cons_succ, i64_w, i32_w]
    rfl
  refine take_ (i := 7) (N := some 31) (v := ?_) (a' := ?_) #[true, true, false, true, true, true, true, true, false, false, false, false] rfl rfl (by kernel_rfl) (fun _ _ _ h => h) (Or.inl ⟨by rfl, ?_⟩) hHeld ?_ ?_
  rotate_left
  · rintro w' ⟨bD_, bS_, bZ_, bH_, bO_, bX_, rD_, lD_, rS_, lS_, rH_, lH_, lO_, rX_, lX_⟩
    go_simp
    with_reducible rfl
  rotate_left
  · simp only [Act.put, List.setIfInBounds_toArray, List.set_cons_zero, List.set_cons_succ, i64_w, i32_w]
    rfl
  refine pure_ (i := 8) (N := some 32) (v := ?_) (a' := ?_) #[true, true, false, true, true, true, true, true, true, false, false, false] rfl rfl (by kernel_rfl) (fun _ _ _ h => h) (Or.inl ⟨by rfl, ?_⟩) ?_ ?_
  rotate_left
  · intro w'
    go_simp
    with_reducible rfl
  rotate_left
  · simp only [Act.put, List.setIfInBounds_toArray, List.set_cons_zero, List.set_cons_succ, i64_w, i32_w]
    rfl
  refine pure_ (i := 9) (N := some 33) (v := ?_) (a' := ?_) #[true, true, false, true, true, true, true, true, true, true, false, false] rfl rfl (by kernel_rfl) (fun _ _ _ h => h) (Or.inl ⟨by rfl, ?_⟩) ?_ ?_
  rotate_left
  · intro w'
    go_simp
    with_reducible rfl
  rotate_left
  · simp only [Act.put, List.setIfInBounds_toArray, List.set_cons_zero, List.set_cons_succ, i64_w, i32_w]
    rfl
  refine pure_ (i := 2) (N := some 26) (v := ?_) (a' := ?_) #[true, true, true, true, true, true, true, true, true, true, false, false] rfl rfl (by kernel_rfl) (fun _ _ _ h => h) (Or.inl ⟨by rfl, ?_⟩) ?_ ?_
  rotate_left
  · intro w'
    go_simp
    with_reducible rfl
  rotate_left
  · simp only [Act.put, List.setIfInBounds_toArray, List.set_cons_zero, List.set_cons_succ, i64_w, i32_w]
    rfl
  refine pure_ (i := 10) (N := some 34) (v := ?_) (a' := ?_) #[true, true, true, true, true, true, true, true, true, true, true, false] rfl rfl (by kernel_rfl) (fun _ _ _ h => h) (Or.inl ⟨by rfl, ?_⟩) ?_ ?_
  rotate_left
  · intro w'
    go_simp
    with_reducible rfl
  rotate_left
  · simp only [Act.put, List.setIfInBounds_toArray, List.set_cons_zero, List.set_cons_succ, i64_w, i32_w]
    rfl
  refine one_ (i := 11) (N := some 35) #[true, true, true, true, true, true, true, true, true, true, true, true] rfl rfl (by kernel_rfl) (by decide) (fun K hK => ?_)
  refine step_copy rfl (.tmp 26) (.tmp 34) 31 31 rfl (.slice (some ⟨g, b, none⟩) (n - b) (cO - b)) (.slice (some (aX.add a)) (hi - a) (cX - a)) rfl rfl hr2 ?_
  refine hK.out _ _ FS.out.now (fun _ => ?_)
  clear hK K hr2
  refine done_ (by kernel_rfl) ?_
  first | go_end0 | (refine bodyPost_ret (results_none rfl _ _ _) rfl ?_)
  exact ⟨rfl, B2'.out, FS.out, ⟨G2.out.os.trans HB0.out.os, G2.out.tape.trans HB0.out.tape, G2.out.output.trans HB0.out.output, Nat.le_trans HB0.out.size G2.out.size, fun k h1 h2 => (G2.out.block k (Nat.lt_of_lt_of_le h1 HB0.out.size) h2).trans (HB0.out.block k h1)⟩⟩
end
end Go.Proofs.Ytjbjofmcmjojlab.Wk
end
section
namespace Go.Proofs.Ytjbjofmcmjojlab.Wk
open Go.RowKit Go.Proofs.YtjbjofmcmjojlabW.PrintWords Go.Proofs.YtjbjofmcmjojlabW.PrintLast Go.Proofs.YtjbjofmcmjojlabW.PrintMore
attribute [local go_sem] max2_int min2_int max_two min_two max_three min_three max_four min_four
set_option linter.unusedVariables false
set_option linter.unusedSimpArgs false
section
open Go.Proofs.YtjbjofmcmjojlabQ
def grid_cutStep (k : Nat) (D S : List Int) (z : Int) (H X : List Int) (n : Nat) (O : List Int) (q : List Int × Int) : Option (List Int) :=
  (grid_moved.f k q.1 S).bind fun mv => (grid_place.f k D mv).bind fun p1 => (grid_place.f k H q.1).bind fun p2 =>
  if 0 ≤ p1 * z ∧ 0 ≤ p2 * z ∧ 1 ≤ q.2 * z ∧ p1 * z + q.2 * z ≤ (X.length : Int) ∧ p2 * z + q.2 * z ≤ (n : Int) ∧ p1 * z + p2 * z + q.2 * z + (n : Int) ≤ 1000000 then some (laid O (p2 * z).toNat ((X.drop (p1 * z).toNat).take (q.2 * z).toNat)) else none
def grid_cutFold (k : Nat) (D S : List Int) (z : Int) (H X : List Int) (n : Nat) (O : List Int) (l : List (List Int × Int)) : Option (List Int) := l.foldlM (grid_cutStep k D S z H X n) O
def grid_Cut.f (k : Nat) (X : List Int) (z : Int) (D H c L : List Int) : Option (List Int × Int) :=
  (grid_fit.f D H).bind fun e1 => if e1 = 0 then ((grid_sized.f k z [D, H]).bind fun e2 => if e2 = 0 then ((space_Elements.f D).bind fun n => (space_Elements.f H).bind fun m =>
    (grid_right.f c D.length).bind fun b => if (X.length : Int) = wrap64 (n.1 * z) ∧ (L.length : Int) = z ∧ b = true then
      ((bytes_Repeat.f L m.1).bind fun O => (grid_Clip.f k D H c).bind fun p => if p.2.1.length ≤ 4 ∧ ∀ x ∈ p.2.1, 0 ≤ x ∧ x ≤ 1048576 then (grid_cutFold k D p.1 z H X O.length O (rowsOf p.2.1)).bind fun r => some (r, 0) else none)
    else some ([], 2)) else some ([], e2)) else some ([], e1)
theorem cutFold_length {k : Nat} {D S : List Int} {z : Int} {H X : List Int} {n : Nat} : ∀ (l : List (List Int × Int)) (O r : List Int), O.length = n → grid_cutFold k D S z H X n O l = some r → r.length = n
  | [], O, r, h, h1 => by cases h1; exact h
  | q :: l, O, r, h, h1 => by
    unfold grid_cutFold at h1
    rw [List.foldlM_cons] at h1
    obtain ⟨O', h2, h3⟩ := Option.bind_eq_some_iff.mp h1
    refine cutFold_length l O' r ?_ h3
    unfold grid_cutStep at h2
    obtain ⟨mv, _, h2⟩ := Option.bind_eq_some_iff.mp h2
    obtain ⟨p1, _, h2⟩ := Option.bind_eq_some_iff.mp h2
    obtain ⟨p2, _, h2⟩ := Option.bind_eq_some_iff.mp h2
    split at h2
    · cases h2
      rw [laid_length _ _ _ (by simp only [List.length_take, List.length_drop]; omega)]
      exact h
    · cases h2
set_option maxHeartbeats 4000000 in
set_option maxRecDepth 10000 in
theorem cut_each (k : Nat) (BD BS BZ BH BO BX : Nat) (AD : Option Addr) (cD : Nat) (D : List Int) (AS : Option Addr) (cS : Nat) (S : List Int) (z : Int) (AH : Option Addr) (cH : Nat) (H : List Int) (g n cO : Nat) (hcO : n ≤ cO) (AX : Option Addr) (cX : Nat) (X : List Int) (AP : Option Addr) (P O r : List Int) (W0 : World)
    (hM : ∀ aX, AX = some aX → Foot (grid_Cut1Mem BD AD cD D BS AS cS S BZ z BH AH cH H BO g n cO BX aX cX X) W0 (fun k => k < W0.heap.size ∧ k ≠ g)) (hX : X.length = 0 ∨ ∃ aX, AX = some aX)
    (hP : Foot (fun W => Kd.C (Kd.int .i64) W AP P.length P) W0 (fun k => k < W0.heap.size ∧ k ≠ g)) (hg : g < W0.heap.size) (hO : O.length = n) (hr : grid_cutFold k D S z H X n O (rowsOf P) = some r) :
    EachAt 41 #[.pointer (some ⟨BD, 0, none⟩), .pointer (some ⟨BS, 0, none⟩), .pointer (some ⟨BZ, 0, none⟩), .pointer (some ⟨BH, 0, none⟩), .pointer (some ⟨BO, 0, none⟩), .pointer (some ⟨BX, 0, none⟩)] W0.heap.size AP P (rowsOf P)
      (fun pre W => ∃ O', grid_cutFold k D S z H X n O pre = some O' ∧ Buf 5 W g n O' ∧ W0.grownBy W (some g)) where
  call := fun args w => enters_ Try.func41 (by kernel_rfl) rfl args w
  keep := by
    rintro pre W W' ⟨O', h1, h2, h3⟩ hs hb
    exact ⟨O', h1, h2.step (hb.block g hg), ⟨hb.os.trans h3.os, hb.tape.trans h3.tape, hb.output.trans h3.output, Nat.le_trans h3.size hb.size, fun k a b => (hb.block k a).trans (h3.block k a b)⟩⟩
  size := by
    rintro pre W ⟨O', h1, h2, h3⟩
    exact hP W (fun k hk hl => h3.block k hl (by intro e; injection e with e; exact hk.2 e))
  step := by
    rintro pre at_ m W A c hpre ⟨O', h1, h2, h3⟩ hC hc hs
    obtain ⟨post, hpost⟩ := hpre
    have hO' := cutFold_length _ _ _ hO h1
    unfold grid_cutFold at hr
    rw [← hpost, List.foldlM_append, List.foldlM_append] at hr
    obtain ⟨O2, h4, _⟩ := Option.bind_eq_some_iff.mp hr
    have h5 := h4
    obtain ⟨O3, h6, h7⟩ := Option.bind_eq_some_iff.mp h4
    have h1' : pre.foldlM (grid_cutStep k D S z H X n) O = some O' := h1
    rw [h1'] at h6
    cases h6
    rw [List.foldlM_cons] at h7
    obtain ⟨O3, h8, h9⟩ := Option.bind_eq_some_iff.mp h7
    cases h9
    have h8' := h8
    unfold grid_cutStep at h8
    obtain ⟨mv, m1, h8⟩ := Option.bind_eq_some_iff.mp h8
    obtain ⟨p1, m2, h8⟩ := Option.bind_eq_some_iff.mp h8
    obtain ⟨p2, m3, h8⟩ := Option.bind_eq_some_iff.mp h8
    split at h8
    case isFalse => cases h8
    case isTrue hq =>
    cases h8
    obtain ⟨q1, q2, q3, q4, q5, q6⟩ := hq
    obtain ⟨a, ha⟩ := Int.eq_ofNat_of_zero_le q1
    obtain ⟨b, hb⟩ := Int.eq_ofNat_of_zero_le q2
    obtain ⟨d, hd⟩ := Int.eq_ofNat_of_zero_le (a := m * z) (by simp only at q3; omega)
    simp only at q3 q4 q5 q6
    rw [ha, hd] at q4
    rw [hb, hd] at q5
    rw [ha, hb, hd] at q6
    rw [hd] at q3
    obtain ⟨aX, rfl⟩ : ∃ aX, AX = some aX := by
      rcases hX with hX | hX
      · omega
      · exact hX
    have hM' := (hM aX rfl).step (W1 := W) (fun k hk hl => h3.block k hl (by intro e; injection e with e; exact hk.2 e))
    refine (grid_Cut1.calls k k k BD AD cD D BS AS cS S BZ z BH AH cH H BO g n cO BX aX cX X A c at_ m mv p1 p2 a b d W0.heap.size O' (fun k => k < W0.heap.size ∧ k ≠ g) W hM' (fun k hk => hk.2) hg hs h2 hO' hC hc m1 m2 m3 ha hb hd (by omega) (by omega) (by omega) (by omega)).mono ?_
    rintro e W' ⟨rfl, b1, b2, b3⟩
    refine ⟨rfl, ⟨_, (by unfold grid_cutFold; rw [List.foldlM_append]; exact h5), ?_, ⟨b3.os.trans h3.os, b3.tape.trans h3.tape, b3.output.trans h3.output, Nat.le_trans h3.size b3.size, fun k x y => (b3.block k (Nat.lt_of_lt_of_le x h3.size) y).trans (h3.block k x y)⟩⟩, ⟨b3.size, fun k x y => b3.block k y (by intro e; injection e with e; omega)⟩⟩
    rw [hb, ha, hd]
    exact b1
set_option maxHeartbeats 4000000 in
set_option maxRecDepth 10000 in
theorem grid_Cut.calls (k : Nat) (A0 : Option Addr) (c0 : Nat) (X : List Int) (z : Int) (A2 : Option Addr) (c2 : Nat) (D : List Int) (A3 : Option Addr) (c3 : Nat) (H : List Int) (A4 : Option Addr) (c4 : Nat) (co : List Int) (A5 : Option Addr) (c5 : Nat) (L r : List Int) (e : Int) (w : World)
    (hr0 : Kd.C (Kd.int .u8) w A0 X.length X) (hc0 : X.length ≤ c0) (hr2 : Kd.C (Kd.int .i64) w A2 D.length D) (hc2 : D.length ≤ c2) (hr3 : Kd.C (Kd.int .i64) w A3 H.length H) (hc3 : H.length ≤ c3)
    (hr4 : Kd.C (Kd.int .i64) w A4 co.length co) (hc4 : co.length ≤ c4) (hr5 : Kd.C (Kd.int .u8) w A5 L.length L) (hc5 : L.length ≤ c5) (h : grid_Cut.f k X z D H co L = some (r, e)) :
    Calls Try.prog 17 #[.slice A0 X.length c0, .int .i64 z, .slice A2 D.length c2, .slice A3 H.length c3, .slice A4 co.length c4, .slice A5 L.length c5] w fun E w' => ∃ v, E = .returned (.tuple #[v, .int .i64 e]) ∧ OwnB 5 w' w.heap.size v r ∧ Below w.heap.size w w' := by
  unfold grid_Cut.f at h
  replace h := Option.bind_eq_some_iff.mp h
  obtain ⟨e1, hf1, h⟩ := h
  obtain ⟨hE, hB4⟩ := env4_boxes (z := z) 31 3 22 22 hr0 hc0 hr2 hc2 hr3 hc3 hr5 hc5
  have HE := Aside0.mk hE
  have HB4 := Aside0.mk hB4
  have HR4 := Aside0.mk (Kd.C_below hr4 hB4)
  have HC4 := Aside0.mk hc4
  have HF1 := Aside0.mk hf1
  have HH := Aside0.mk h
  have HU := Aside0.mk (Try.underlying22)
  clear hr0 hc0 hr2 hc2 hr3 hc3 hr5 hc5 hr4 hc4 hf1 h hE hB4
  go_enter Try.func17, Try.ntmps17
  go_upto_region 1 with (fail)
  generalize ((((w.alloc (.cells #[.slice A0 X.length c0] 31)).alloc (.cells #[.int .i64 z] 3)).alloc (.cells #[.slice A2 D.length c2] 22)).alloc (.cells #[.slice A3 H.length c3] 22)) = w4 at HE HB4 HR4 ⊢
  obtain ⟨b0, b1, b2, b3, -, -, -, -, -, -, -, -⟩ := HE.out
  go_upto_region 2 with (go_at_call 33; refine (grid_fit.calls A2 c2 D A3 c3 H e1 _ HE.out.r2 HE.out.l2 HE.out.r3 HE.out.l3 HF1.out).mono ?_; rintro e_ w' ⟨rfl, ⟨n1, rfl⟩⟩)
  have HE5 := Aside0.mk (HE.out.below (pw_below_drewN (Below.refl _ _) n1))
  have HB5 := Aside0.mk (pw_below_drewN HB4.out n1)
  have HR5 := Aside0.mk (Kd.C_drewN HR4.out n1)
  clear HE HB4 HR4 HF1 b0 b1 b2 b3
  generalize w4.drewN n1 = w5 at HE5 HB5 HR5 ⊢
  have h := HH.out
  clear HH
  by_cases h1 : e1 = 0
  case neg =>
    rw [if_neg h1] at h
    cases h
    have d1 : (e == 0) = false := by simpa using h1
    go_wp2
    go_ret2
    exact ⟨_, rfl, .inl ⟨rfl, _, _, rfl⟩, HB5.out⟩
  rw [if_pos h1] at h
  subst h1
  replace h := Option.bind_eq_some_iff.mp h
  obtain ⟨e2, hf2, h⟩ := h
  have HF2 := Aside0.mk hf2
  have HH := Aside0.mk h
  clear hf2 h
  obtain ⟨b0, b1, b2, b3, -, -, -, -, -, -, -, -⟩ := HE5.out
  go_upto_region 5 with (go_at_call 37; refine (grid_sized.calls k z (some ⟨w5.heap.size, 0, none⟩) 2 [D, H] e2 _ (two_rows (World.alloc_heap_new _ _) (Kd.C_alloc HE5.out.r2 _) HE5.out.l2 (Kd.C_alloc HE5.out.r3 _) HE5.out.l3) (Nat.le_refl _) HF2.out).mono ?_; rintro e_ w' ⟨rfl, ⟨n2, rfl⟩⟩)
  have hb6 := pw_below_drewN (below_alloc (Below.refl w5.heap.size w5) (.cells #[.slice A2 D.length c2, .slice A3 H.length c3] 22)) n2
  have HE6 := Aside0.mk (HE5.out.below hb6)
  have HB6 := Aside0.mk (pw_below_drewN (HB5.out.alloc HB5.out.size (.cells #[.slice A2 D.length c2, .slice A3 H.length c3] 22)) n2)
  have HR6 := Aside0.mk (Kd.C_below HR5.out hb6)
  clear HE5 HB5 HR5 HF2 b0 b1 b2 b3 hb6
  generalize (w5.alloc (.cells #[.slice A2 D.length c2, .slice A3 H.length c3] 22)).drewN n2 = w6 at HE6 HB6 HR6 ⊢
  have h := HH.out
  clear HH
  by_cases h1 : e2 = 0
  case neg =>
    rw [if_neg h1] at h
    cases h
    have d1 : (e == 0) = false := by simpa using h1
    go_wp2
    go_ret2
    exact ⟨_, rfl, .inl ⟨rfl, _, _, rfl⟩, HB6.out⟩
  rw [if_pos h1] at h
  subst h1
  replace h := Option.bind_eq_some_iff.mp h
  obtain ⟨⟨n, en⟩, hN, h⟩ := h
  replace h := Option.bind_eq_some_iff.mp h
  obtain ⟨⟨m, em⟩, hM, h⟩ := h
  replace h := Option.bind_eq_some_iff.mp h
  obtain ⟨b, hb, h⟩ := h
  have HN := Aside0.mk hN
  have HM := Aside0.mk hM
  have HRT := Aside0.mk hb
  have HH := Aside0.mk h
  clear hN hM hb h
  obtain ⟨b0, b1, b2, b3, -, -, -, -, -, -, -, -⟩ := HE6.out
  go_upto_region 8 with (go_at_call 38; refine (space_Elements.calls A2 c2 D n en _ HE6.out.r2 HE6.out.l2 HN.out).mono ?_; rintro e_ w' ⟨rfl, ⟨n3, rfl⟩⟩)
  have HE7 := Aside0.mk (HE6.out.below (pw_below_drewN (Below.refl _ _) n3))
  have HB7 := Aside0.mk (pw_below_drewN HB6.out n3)
  have HR7 := Aside0.mk (Kd.C_drewN HR6.out n3)
  clear HE6 HB6 HR6 HN b0 b1 b2 b3
  generalize w6.drewN n3 = w7 at HE7 HB7 HR7 ⊢
  obtain ⟨b0, b1, b2, b3, -, -, -, -, -, -, -, -⟩ := HE7.out
  go_upto_region 9 with (go_at_call 38; refine (space_Elements.calls A3 c3 H m em _ HE7.out.r3 HE7.out.l3 HM.out).mono ?_; rintro e_ w' ⟨rfl, ⟨n4, rfl⟩⟩)
  have HE8 := Aside0.mk (HE7.out.below (pw_below_drewN (Below.refl _ _) n4))
  have HB8 := Aside0.mk (pw_below_drewN HB7.out n4)
  have HR8 := Aside0.mk (Kd.C_drewN HR7.out n4)
  clear HE7 HB7 HR7 HM b0 b1 b2 b3
  generalize w7.drewN n4 = w8 at HE8 HB8 HR8 ⊢
  obtain ⟨b0, b1, b2, b3, -, -, -, -, -, -, -, -⟩ := HE8.out
  have h := HH.out
  clear HH
  try simp only at h
  by_cases x1 : (X.length : Int) = wrap64 (n * z)
  case neg =>
    rw [if_neg (fun q => x1 q.1)] at h
    cases h
    have d1 : ((X.length : Int) == wrap64 (n * z)) = false := by simpa using x1
    go_wp2
    go_ret2
    exact ⟨_, rfl, .inl ⟨rfl, _, _, rfl⟩, HB8.out⟩
  have d1 : ((X.length : Int) == wrap64 (n * z)) = true := by simpa using x1
  have q1 : ((X.length : Int) = wrap64 (n * z)) = True := eq_true x1
  have m1 : ((X.length : Int) != wrap64 (n * z)) = false := by simpa using x1
  by_cases x2 : (L.length : Int) = z
  case neg =>
    rw [if_neg (fun q => x2 q.2.1)] at h
    cases h
    have d2 : ((L.length : Int) == z) = false := by simpa using x2
    have q2 : ((L.length : Int) = z) = False := eq_false x2
    clear x1
    go_wp2
    go_ret2
    exact ⟨_, rfl, .inl ⟨rfl, _, _, rfl⟩, HB8.out⟩
  have d2 : ((L.length : Int) == z) = true := by simpa using x2
  have q2 : ((L.length : Int) = z) = True := eq_true x2
  have m2 : ((L.length : Int) != z) = false := by simpa using x2
  cases b with
  | false =>
    rw [if_neg (fun q => by cases q.2.2)] at h
    cases h
    clear x1 x2
    go_wp2_with (go_at_call 34; refine (grid_right.calls A4 c4 co (D.length : Int) false _ HR8.out HC4.out HRT.out).mono ?_; rintro e_ w' ⟨rfl, ⟨n5, rfl⟩⟩)
    go_ret2
    exact ⟨_, rfl, .inl ⟨rfl, _, _, rfl⟩, pw_below_drewN HB8.out n5⟩
  | true =>
  rw [if_pos ⟨x1, x2, rfl⟩] at h
  replace h := Option.bind_eq_some_iff.mp h
  obtain ⟨O, hO, h⟩ := h
  replace h := Option.bind_eq_some_iff.mp h
  obtain ⟨⟨S, P, ce⟩, hC, h⟩ := h
  try simp only at h
  split at h
  case isFalse => cases h
  case isTrue hq =>
  replace h := Option.bind_eq_some_iff.mp h
  obtain ⟨r', hr, h⟩ := h
  cases h
  have HO := Aside0.mk hO
  have HC := Aside0.mk hC
  have HQ := Aside0.mk hq
  have HFR := Aside0.mk hr
  clear hO hC hq hr x1 x2
  go_upto_region 11 with (go_at_call 34; refine (grid_right.calls A4 c4 co (D.length : Int) true _ HR8.out HC4.out HRT.out).mono ?_; rintro e_ w' ⟨rfl, ⟨n5, rfl⟩⟩)
  have HE9 := Aside0.mk (HE8.out.below (pw_below_drewN (Below.refl _ _) n5))
  have HB9 := Aside0.mk (pw_below_drewN HB8.out n5)
  have HR9 := Aside0.mk (Kd.C_drewN HR8.out n5)
  clear HE8 HB8 HR8 HRT b0 b1 b2 b3 d1 d2 q1 q2 m1 m2
  generalize w8.drewN n5 = w9 at HE9 HB9 HR9 ⊢
  go_upto_region 12 with (go_at_call 39; refine (grid_full.calls m A5 c5 L O _ HE9.out.r5 HE9.out.l5 HO.out).mono ?_; rintro e_ w10 ⟨g, rfl, hg, hbuf, hb⟩; have HG := Aside0.mk hg; have HBF := Aside0.mk hbuf; have HBL := Aside0.mk hb; clear hg hbuf hb)
  have hb11 : Below w9.heap.size w9 (w10.alloc (.cells #[.slice (some ⟨g, 0, none⟩) O.length O.length] 31)) := below_alloc HBL.out _
  have HE11 := Aside0.mk (HE9.out.below hb11)
  have HB11 := Aside0.mk (below_step HB9.out hb11)
  have HR11 := Aside0.mk (Kd.C_below HR9.out hb11)
  have HX11 := Aside0.mk (show (w10.alloc (.cells #[.slice (some ⟨g, 0, none⟩) O.length O.length] 31)).heap[w10.heap.size]? = some (.cells #[.slice (some ⟨g, 0, none⟩) O.length O.length] 31 (0, 0)) from World.alloc_heap_new _ _)
  have HBF11 := Aside0.mk (HBF.out.below (below_alloc (Below.refl _ _) (.cells #[.slice (some ⟨g, 0, none⟩) O.length O.length] 31)))
  have HG10 := Aside0.mk HBF.out.lt
  have HB911 := Aside0.mk hb11
  have HZ11 := Aside0.mk (show (w10.alloc (.cells #[.slice (some ⟨g, 0, none⟩) O.length O.length] 31)).heap.size = w10.heap.size + 1 from World.size_alloc _ _)
  clear hb11 HBF HBL HB9 HR9 HO
  generalize hw11 : w10.alloc (.cells #[.slice (some ⟨g, 0, none⟩) O.length O.length] 31) = w11 at HE11 HB11 HR11 HX11 HBF11 HB911 HZ11 ⊢
  clear hw11
  obtain ⟨b0, b1, b2, b3, -, -, -, -, -, -, -, -⟩ := HE11.out
  go_upto_region 13 with (go_at_call 11; refine (grid_Clip.calls k A2 c2 D A3 c3 H A4 c4 co S P ce _ HE11.out.r2 HE11.out.l2 HE11.out.r3 HE11.out.l3 HR11.out HC4.out HC.out).mono ?_; rintro e_ w12 ⟨v0, v1, rfl, hv0, hv1, hb⟩; obtain ⟨AS, cS, rfl⟩ := Kd.R_slice hv0; obtain ⟨AP, cP, rfl⟩ := Kd.R_slice hv1; have HV0 := Aside0.mk hv0; have HV1 := Aside0.mk hv1; have HBL := Aside0.mk hb; clear hv0 hv1 hb)
  clear b0 b1 b2 b3
  have hbA : Below w12.heap.size w12 (w12.alloc (.cells #[.slice AS S.length cS] 22)) := below_alloc (Below.refl _ _) _
  have hb1213 : Below w11.heap.size w11 (w12.alloc (.cells #[.slice AS S.length cS] 22)) := below_step HBL.out hbA
  have hsz := HBL.out.size
  have hlt : g < w10.heap.size := HG10.out
  have hz11 := HZ11.out
  have hz13 : (w12.alloc (.cells #[.slice AS S.length cS] 22)).heap.size = w12.heap.size + 1 := World.size_alloc _ _
  have HM13 := Aside0.mk (show ∀ aX, A0 = some aX → Foot (grid_Cut1Mem (w.heap.size + 1 + 1) A2 c2 D w12.heap.size AS cS S (w.heap.size + 1) z (w.heap.size + 1 + 1 + 1) A3 c3 H w10.heap.size g O.length O.length w.heap.size aX c0 X) (w12.alloc (.cells #[.slice AS S.length cS] 22)) (fun k => k < (w12.alloc (.cells #[.slice AS S.length cS] 22)).heap.size ∧ k ≠ g) from by
    rintro aX rfl W hW
    have hE := (((HE9.out.foot).step (W1 := w12.alloc (.cells #[.slice AS S.length cS] 22)) (fun k _ hk => (below_step HB911.out hb1213).block k hk)).mono (ok' := fun k => k < (w12.alloc (.cells #[.slice AS S.length cS] 22)).heap.size ∧ k ≠ g) (fun k hk => ⟨by have := HB911.out.size; omega, by have := HG.out; omega⟩)) W hW
    have hS := ((Kd.R_F (Kd.R_mono (ok' := fun k => w11.heap.size ≤ k ∧ k < w12.heap.size) (Kd.R_bound HV0.out) (fun k hk => ⟨hk.2.1, hk.2.2.1⟩))).step (W1 := w12.alloc (.cells #[.slice AS S.length cS] 22)) (fun k _ hk => hbA.block k hk)) W (fun k hk hl => hW k ⟨hl, by omega⟩ hl)
    exact ⟨hE.b2, (blk_cell ((hW w12.heap.size ⟨by omega, by omega⟩ (by omega)).trans (World.alloc_heap_new _ _)) 0).trans rfl, hE.b1, hE.b3,
      (blk_cell ((hW w10.heap.size ⟨by omega, by omega⟩ (by omega)).trans ((hb1213.block _ (by omega)).trans HX11.out)) 0).trans rfl, hE.b0, hE.r2, hE.l2, hS, (Kd.R_reads' HV0.out).2.1, hE.r3, hE.l3, Nat.le_refl _, hE.r0, hE.l0⟩)
  have HP13 := Aside0.mk (show Foot (fun W => Kd.C (Kd.int .i64) W AP P.length P) (w12.alloc (.cells #[.slice AS S.length cS] 22)) (fun k => k < (w12.alloc (.cells #[.slice AS S.length cS] 22)).heap.size ∧ k ≠ g) from by
    intro W hW
    exact ((Kd.R_F (Kd.R_mono (ok' := fun k => w11.heap.size ≤ k ∧ k < w12.heap.size) (Kd.R_bound HV1.out) (fun k hk => ⟨hk.2.1, hk.2.2.1⟩))).step (W1 := w12.alloc (.cells #[.slice AS S.length cS] 22)) (fun k _ hk => hbA.block k hk)) W (fun k hk hl => hW k ⟨hl, by omega⟩ hl))
  have HX13 := Aside0.mk ((hb1213.block _ (by omega)).trans HX11.out)
  have HBF13 := Aside0.mk (HBF11.out.step (hb1213.block g (by omega)))
  have HB13 := Aside0.mk (below_step HB11.out hb1213)
  have HG13 := Aside0.mk (show g < (w12.alloc (.cells #[.slice AS S.length cS] 22)).heap.size by omega)
  have HGB := Aside0.mk (show w.heap.size ≤ g from Nat.le_trans (Nat.le_of_lt (World.block_lt_of_cell? _ _ HE9.out.b0)) HG.out)
  have HCP := Aside0.mk (Kd.R_reads' HV1.out).2.1
  have HAX := Aside0.mk (u8_addr HE9.out.r0)
  have HNE := Aside0.mk (show ¬ some w10.heap.size = some g from fun e => by injection e with e; omega)
  clear hbA hb1213 hsz hlt hz11 hz13 HBL HV0 HV1 HE9 HE11 HB11 HR11 HX11 HBF11 HB911 HZ11 HG10
  generalize (w12.alloc (.cells #[.slice AS S.length cS] 22)) = w13 at HM13 HP13 HX13 HBF13 HB13 HG13 ⊢
  go_upto_region 14 with (go_at_call 40; refine (grid_rows 41 _ _ AP cP P _ (cut_each k (w.heap.size + 1 + 1) w12.heap.size (w.heap.size + 1) (w.heap.size + 1 + 1 + 1) w10.heap.size w.heap.size A2 c2 D AS cS S z A3 c3 H g O.length O.length (Nat.le_refl _) A0 c0 X AP P O r w13 HM13.out HAX.out HP13.out HG13.out rfl HFR.out) ⟨O, rfl, HBF13.out, ⟨rfl, rfl, rfl, Nat.le_refl _, fun _ _ _ => rfl⟩⟩ HQ.out.1 HQ.out.2 HCP.out).mono ?_; rintro e_ w14 ⟨rfl, ⟨O', h1, h2, h3⟩⟩; have H1 := Aside0.mk h1; have H2 := Aside0.mk h2; have H3 := Aside0.mk h3; clear h1 h2 h3)
  have e1 := HFR.out.symm.trans H1.out
  cases e1
  have hl := cutFold_length _ _ _ rfl HFR.out
  have bo : w14.cell? ⟨w10.heap.size, 0, none⟩ = some (.slice (some ⟨g, 0, none⟩) O.length O.length) := (blk_cell ((H3.out.block _ (World.block_lt_of_cell? w13 ⟨w10.heap.size, 0, none⟩ ((blk_cell HX13.out 0).trans rfl)) HNE.out).trans HX13.out) 0).trans rfl
  go_wp2
  go_ret2
  exact ⟨_, rfl, .inr ⟨g, _, by rw [hl]; rfl, by rw [hl]; exact Nat.le_refl _, HGB.out, by rw [hl]; exact H2.out⟩, HB13.out.grown H3.out HB13.out.size (fun k e => by cases e; exact HGB.out)⟩
end
end Go.Proofs.Ytjbjofmcmjojlab.Wk
end
section
namespace Go.Proofs.Ytjbjofmcmjojlab.Wk
open Go.RowKit Go.Proofs.YtjbjofmcmjojlabW.PrintWords Go.Proofs.YtjbjofmcmjojlabW.PrintLast Go.Proofs.YtjbjofmcmjojlabW.PrintMore
attribute [local go_sem] max2_int min2_int max_two min_two max_three min_three max_four min_four
set_option linter.unusedVariables false
set_option linter.unusedSimpArgs false
def grid_Chunks.l0 : Nat → List Int → List Int → Int → Int → Int → Option (Int × Int)
  | 0, _, _, _, _, _ => none
  | k + 1, x0, x1, x7, x16, x17 => if x17 < x16 then (if 0 ≤ x17 then (if x17 < (x0.length : Int) then (if x17 < (x1.length : Int) then (if (rd x1 x17) = 0 then (none) else (grid_Chunks.l0 k x0 x1 (wrap64 (x7 * (wrap64 (Int.tdiv (wrap64 ((wrap64 ((rd x0 x17) + (rd x1 x17))) - 1)) (rd x1 x17))))) x16 (wrap64 (x17 + 1)))) else (none)) else (none)) else (none)) else (some (x7, 0))
def grid_Chunks.f (k : Nat) (l0 : List Int) (l1 : List Int) : Option (Int × Int) := (grid_fit.f l0 l1).bind fun t135 => (if t135 = 0 then (grid_Chunks.l0 k l0 l1 1 (l0.length : Int) 0) else (some (0, t135)))
set_option maxHeartbeats 8000000 in
set_option maxRecDepth 100000 in
theorem grid_Chunks.calls (k : Nat) (A0 : Option Addr) (c0 : Nat) (l0 : List Int) (A1 : Option Addr) (c1 : Nat) (l1 : List Int) (r1 : Int) (r2 : Int) (w : World) (hr0 : Kd.C (Kd.int .i64) w A0 l0.length l0) (hc0 : l0.length ≤ c0) (hr1 : Kd.C (Kd.int .i64) w A1 l1.length l1) (hc1 : l1.length ≤ c1) (h : grid_Chunks.f k l0 l1 = some (r1, r2)) :
    Calls Try.prog 25 #[.slice A0 l0.length c0, .slice A1 l1.length c1] w fun e w' => e = .returned (.tuple #[.int .i64 r1, .int .i64 r2]) ∧ Drawn0 w w' := by
  have HR0 := Aside0.mk hr0
  have HC0 := Aside0.mk hc0
  clear hr0 hc0
  have HR1 := Aside0.mk hr1
  have HC1 := Aside0.mk hc1
  clear hr1 hc1
  have H : ((grid_fit.f l0 l1).bind fun t135 => (if t135 = 0 then (grid_Chunks.l0 k l0 l1 1 (l0.length : Int) 0) else (some (0, t135)))) = some (r1, r2) := h
  clear h
  replace H := Option.bind_eq_some_iff.mp H
  obtain ⟨t135, A30, H⟩ := H
  replace H : (if t135 = 0 then (grid_Chunks.l0 k l0 l1 1 (l0.length : Int) 0) else (some (0, t135))) = some (r1, r2) := H
  have A3 := Aside0.mk A30
  clear A30
  by_cases c4 : t135 = 0
  · rw [if_pos c4] at H
    have c4b0 : (t135 == 0) = true := beq_iff_eq.mpr c4
    have c4b1 : (t135 != 0) = false := bne_eq_false_iff_eq.mpr c4
    clear c4
    have H' := Aside0.mk H
    clear H
    go_enter Try.func25, Try.ntmps25
    go_wp2_with (first | (go_at_call 33; (with_reducible refine (grid_fit.calls _ _ l0 _ _ l1 t135 _ ?side1 ?side2 ?side3 ?side4 A3.out).mono ?_); (case side1 => repeat (first | exact HR0.out | (with_reducible refine Kd.C_alloc ?_ _) | (with_reducible refine Kd.C_drewN ?_ _) | (with_reducible refine Kd.C_drew ?_))); (case side2 => exact HC0.out); (case side3 => repeat (first | exact HR1.out | (with_reducible refine Kd.C_alloc ?_ _) | (with_reducible refine Kd.C_drewN ?_ _) | (with_reducible refine Kd.C_drew ?_))); (case side4 => exact HC1.out); rintro e w' ⟨rfl, ⟨nd, rfl⟩⟩; (try first | exact ⟨rfl, _, World.drewN_drewN _ _ _⟩ | exact ⟨rfl, _, Eq.trans (World.drewN_drewN _ _ _) (congrArg (World.drewN _) (Nat.add_assoc _ _ _))⟩)))
    repeat (go_quiet (first | (go_at_call 33; (with_reducible refine (grid_fit.calls _ _ l0 _ _ l1 t135 _ ?side1 ?side2 ?side3 ?side4 A3.out).mono ?_); (case side1 => repeat (first | exact HR0.out | (with_reducible refine Kd.C_alloc ?_ _) | (with_reducible refine Kd.C_drewN ?_ _) | (with_reducible refine Kd.C_drew ?_))); (case side2 => exact HC0.out); (case side3 => repeat (first | exact HR1.out | (with_reducible refine Kd.C_alloc ?_ _) | (with_reducible refine Kd.C_drewN ?_ _) | (with_reducible refine Kd.C_drew ?_))); (case side4 => exact HC1.out); rintro e w' ⟨rfl, ⟨nd, rfl⟩⟩; (try first | exact ⟨rfl, _, World.drewN_drewN _ _ _⟩ | exact ⟨rfl, _, Eq.trans (World.drewN_drewN _ _ _) (congrArg (World.drewN _) (Nat.add_assoc _ _ _))⟩))); try go_wp2_with (first | (go_at_call 33; (with_reducible refine (grid_fit.calls _ _ l0 _ _ l1 t135 _ ?side1 ?side2 ?side3 ?side4 A3.out).mono ?_); (case side1 => repeat (first | exact HR0.out | (with_reducible refine Kd.C_alloc ?_ _) | (with_reducible refine Kd.C_drewN ?_ _) | (with_reducible refine Kd.C_drew ?_))); (case side2 => exact HC0.out); (case side3 => repeat (first | exact HR1.out | (with_reducible refine Kd.C_alloc ?_ _) | (with_reducible refine Kd.C_drewN ?_ _) | (with_reducible refine Kd.C_drew ?_))); (case side4 => exact HC1.out); rintro e w' ⟨rfl, ⟨nd, rfl⟩⟩; (try first | exact ⟨rfl, _, World.drewN_drewN _ _ _⟩ | exact ⟨rfl, _, Eq.trans (World.drewN_drewN _ _ _) (congrArg (World.drewN _) (Nat.add_assoc _ _ _))⟩))))
    go_loopg [7, 17] k (fun kq v7 v17 w' => ∃ (x7_1 : Int) (x17_1 : Int), v7 = .int .i64 x7_1 ∧ v17 = .int .i64 x17_1 ∧ Aside0 (grid_Chunks.l0 kq l0 l1 x7_1 (l0.length : Int) x17_1 = some (r1, r2)) ∧ Aside0 (kq ≤ k) ∧ Drawn0 w w')
    case atStart => exact ⟨(1), (0), (by first | rfl | (simp; done) | (simp [*]; done)), (by first | rfl | (simp; done) | (simp [*]; done)), H', ⟨Nat.le_refl _⟩, by repeat (first | exact Drawn0.refl _ | apply Drawn0.step)⟩
    case round =>
      clear H'
      try clear c1
      try clear c2
      try clear p2
      try clear c4
      try clear c4b0
      try clear c4b1
      obtain ⟨x7_1, x17_1, rfl, rfl, HA, HK1, ⟨m1, rfl⟩⟩ := hrel
      cases gk with
      | zero => exact absurd HA.out (by simp [grid_Chunks.l0])
      | succ k1 =>
        have H := HA.out
        clear HA
        simp only [grid_Chunks.l0] at H
        by_cases c5 : x17_1 < (l0.length : Int)
        · rw [if_pos c5] at H
          have c5b0 : decide (x17_1 < (l0.length : Int)) = true := decide_eq_true c5
          clear c5
          by_cases c6 : 0 ≤ x17_1
          · rw [if_pos c6] at H
            have c6b0 : decide (0 ≤ x17_1) = true := decide_eq_true c6
            clear c6
            by_cases c7 : x17_1 < (l0.length : Int)
            · rw [if_pos c7] at H
              have c7b0 : decide (x17_1 < (l0.length : Int)) = true := decide_eq_true c7
              clear c7
              by_cases c8 : x17_1 < (l1.length : Int)
              · rw [if_pos c8] at H
                have c8b0 : decide (x17_1 < (l1.length : Int)) = true := decide_eq_true c8
                clear c8
                by_cases c9 : (rd l1 x17_1) = 0
                · rw [if_pos c9] at H
                  exact absurd H (by simp)
                · rw [if_neg c9] at H
                  have c9b0 : ((rd l1 x17_1) == 0) = false := beq_eq_false_iff_ne.mpr c9
                  have c9b1 : ((rd l1 x17_1) != 0) = true := bne_iff_ne.mpr c9
                  have H' := Aside0.mk H
                  clear H
                  have p136 : 0 ≤ (x17_1 : Int) := of_decide_eq_true (by first | (with_reducible assumption) | assumption)
                  have q136 : x17_1 < (l0.length : Int) := of_decide_eq_true (by first | (with_reducible assumption) | assumption)
                  obtain ⟨ad136, e136, hx136_0⟩ := Kd.at_int HR0.out x17_1 p136 q136
                  cases e136
                  replace p136 := eq_true p136
                  replace q136 := eq_true q136
                  have p137 : 0 ≤ (x17_1 : Int) := of_decide_eq_true (by first | (with_reducible assumption) | assumption)
                  have q137 : x17_1 < (l1.length : Int) := of_decide_eq_true (by first | (with_reducible assumption) | assumption)
                  obtain ⟨ad137, e137, hx137_0⟩ := Kd.at_int HR1.out x17_1 p137 q137
                  cases e137
                  replace p137 := eq_true p137
                  replace q137 := eq_true q137
                  have p138 : 0 ≤ (x17_1 : Int) := of_decide_eq_true (by first | (with_reducible assumption) | assumption)
                  have q138 : x17_1 < (l1.length : Int) := of_decide_eq_true (by first | (with_reducible assumption) | assumption)
                  obtain ⟨ad138, e138, hx138_0⟩ := Kd.at_int HR1.out x17_1 p138 q138
                  obtain rfl : ad137 = ad138 := (by injection e138)
                  replace p138 := eq_true p138
                  replace q138 := eq_true q138
                  go_wp2
                  repeat (go_quiet (fail); try go_wp2)
                  go_roundg k1
                  case measure => have := HK1.out; omega
                  case rel => exact ⟨(wrap64 (x7_1 * (wrap64 (Int.tdiv (wrap64 ((wrap64 ((rd l0 x17_1) + (rd l1 x17_1))) - 1)) (rd l1 x17_1))))), (wrap64 (x17_1 + 1)), (by first | rfl | (simp; done) | (simp [*]; done)), (by first | rfl | (simp; done) | (simp [*]; done)), H', ⟨by have := HK1.out; omega⟩, by repeat (first | exact Drawn0.refl _ | apply Drawn0.step)⟩
              · rw [if_neg c8] at H
                exact absurd H (by simp)
            · rw [if_neg c7] at H
              exact absurd H (by simp)
          · rw [if_neg c6] at H
            exact absurd H (by simp)
        · rw [if_neg c5] at H
          have c5b0 : decide (x17_1 < (l0.length : Int)) = false := decide_eq_false c5
          clear c5
          simp only [Option.some.injEq, Prod.mk.injEq] at H
          obtain ⟨rfl, rfl⟩ := H
          go_wp2
          repeat (go_quiet (fail); try go_wp2)
          go_ret2
          exact ⟨by first | rfl | (simp; done) | (simp [*]; done), by repeat (first | exact Drawn0.refl _ | apply Drawn0.step)⟩
  · rw [if_neg c4] at H
    have c4b0 : (t135 == 0) = false := beq_eq_false_iff_ne.mpr c4
    have c4b1 : (t135 != 0) = true := bne_iff_ne.mpr c4
    simp only [Option.some.injEq, Prod.mk.injEq] at H
    obtain ⟨rfl, rfl⟩ := H
    go_enter Try.func25, Try.ntmps25
    go_wp2_with (first | (go_at_call 33; (with_reducible refine (grid_fit.calls _ _ l0 _ _ l1 t135 _ ?side1 ?side2 ?side3 ?side4 A3.out).mono ?_); (case side1 => repeat (first | exact HR0.out | (with_reducible refine Kd.C_alloc ?_ _) | (with_reducible refine Kd.C_drewN ?_ _) | (with_reducible refine Kd.C_drew ?_))); (case side2 => exact HC0.out); (case side3 => repeat (first | exact HR1.out | (with_reducible refine Kd.C_alloc ?_ _) | (with_reducible refine Kd.C_drewN ?_ _) | (with_reducible refine Kd.C_drew ?_))); (case side4 => exact HC1.out); rintro e w' ⟨rfl, ⟨nd, rfl⟩⟩; (try first | exact ⟨rfl, _, World.drewN_drewN _ _ _⟩ | exact ⟨rfl, _, Eq.trans (World.drewN_drewN _ _ _) (congrArg (World.drewN _) (Nat.add_assoc _ _ _))⟩)))
    repeat (go_quiet (first | (go_at_call 33; (with_reducible refine (grid_fit.calls _ _ l0 _ _ l1 t135 _ ?side1 ?side2 ?side3 ?side4 A3.out).mono ?_); (case side1 => repeat (first | exact HR0.out | (with_reducible refine Kd.C_alloc ?_ _) | (with_reducible refine Kd.C_drewN ?_ _) | (with_reducible refine Kd.C_drew ?_))); (case side2 => exact HC0.out); (case side3 => repeat (first | exact HR1.out | (with_reducible refine Kd.C_alloc ?_ _) | (with_reducible refine Kd.C_drewN ?_ _) | (with_reducible refine Kd.C_drew ?_))); (case side4 => exact HC1.out); rintro e w' ⟨rfl, ⟨nd, rfl⟩⟩; (try first | exact ⟨rfl, _, World.drewN_drewN _ _ _⟩ | exact ⟨rfl, _, Eq.trans (World.drewN_drewN _ _ _) (congrArg (World.drewN _) (Nat.add_assoc _ _ _))⟩))); try go_wp2_with (first | (go_at_call 33; (with_reducible refine (grid_fit.calls _ _ l0 _ _ l1 t135 _ ?side1 ?side2 ?side3 ?side4 A3.out).mono ?_); (case side1 => repeat (first | exact HR0.out | (with_reducible refine Kd.C_alloc ?_ _) | (with_reducible refine Kd.C_drewN ?_ _) | (with_reducible refine Kd.C_drew ?_))); (case side2 => exact HC0.out); (case side3 => repeat (first | exact HR1.out | (with_reducible refine Kd.C_alloc ?_ _) | (with_reducible refine Kd.C_drewN ?_ _) | (with_reducible refine Kd.C_drew ?_))); (case side4 => exact HC1.out); rintro e w' ⟨rfl, ⟨nd, rfl⟩⟩; (try first | exact ⟨rfl, _, World.drewN_drewN _ _ _⟩ | exact ⟨rfl, _, Eq.trans (World.drewN_drewN _ _ _) (congrArg (World.drewN _) (Nat.add_assoc _ _ _))⟩))))
    go_ret2
    exact ⟨by first | rfl | (simp; done) | (simp [*]; done), by repeat (first | exact Drawn0.refl _ | apply Drawn0.step)⟩
end Go.Proofs.Ytjbjofmcmjojlab.Wk
end
section
namespace Go.Proofs.Ytjbjofmcmjojlab.Wk
open Go.RowKit Go.Proofs.YtjbjofmcmjojlabW.PrintWords Go.Proofs.YtjbjofmcmjojlabW.PrintLast Go.Proofs.YtjbjofmcmjojlabW.PrintMore
attribute [local go_sem] max2_int min2_int max_two min_two max_three min_three max_four min_four
set_option linter.unusedVariables false
set_option linter.unusedSimpArgs false
section
open Go.Proofs.YtjbjofmcmjojlabQ
def slabvaultlaw13_lives.f : Option (Bool) := some true
theorem C_lit (k : IntKind) {W : World} {b e : Nat} {fr : Nat × Nat} (xs : List Int) (h : W.heap[b]? = some (.cells (xs.map (Value.int k)).toArray e fr)) (hm : xs.length ≤ 9223372036854775807) : Kd.C (Kd.int k) W (some ⟨b, 0, none⟩) xs.length xs := by
  refine Kd.C_of_reads (d := (0 : Int)) (h1 := fun _ => rfl) ⟨rfl, hm, fun _ => ⟨_, rfl, fun j hj => ?_⟩⟩
  have he : (⟨b, 0, none⟩ : Addr).add j = ⟨b, j, none⟩ := by
    by_cases h0 : j = 0
    · subst h0; simp [Addr.add]
    · simp [Addr.add, h0]
  rw [he, show W.cell? ⟨b, j, none⟩ = (xs.map (Value.int k)).toArray[j]? by simp [World.cell?, h]]
  simp [List.getElem?_map, List.getElem?_eq_getElem hj, List.getD_eq_getElem?_getD]
theorem lits5 (w : World) (a b c d e : Obj) : let W := ((((w.alloc a).alloc b).alloc c).alloc d).alloc e; W.heap[w.heap.size]? = some a ∧ W.heap[w.heap.size + 1]? = some b ∧ W.heap[w.heap.size + 1 + 1]? = some c ∧ W.heap[w.heap.size + 1 + 1 + 1]? = some d ∧ W.heap[w.heap.size + 1 + 1 + 1 + 1]? = some e ∧ Below w.heap.size w W := by
  intro W
  have h1 := World.alloc_heap_new w a
  have h2 := World.alloc_heap_new (w.alloc a) b
  have h3 := World.alloc_heap_new ((w.alloc a).alloc b) c
  have h4 := World.alloc_heap_new (((w.alloc a).alloc b).alloc c) d
  have h5 := World.alloc_heap_new ((((w.alloc a).alloc b).alloc c).alloc d) e
  simp only [World.size_alloc] at h2 h3 h4 h5
  exact ⟨blk_alloc (blk_alloc (blk_alloc (blk_alloc h1 _) _) _) _, blk_alloc (blk_alloc (blk_alloc h2 _) _) _, blk_alloc (blk_alloc h3 _) _, blk_alloc h4 _, h5, below_alloc (below_alloc (below_alloc (below_alloc (below_alloc (Below.refl _ _) _) _) _) _) _⟩
theorem lits4 (w : World) (a b c d : Obj) : let W := ((((w.alloc a).alloc b).alloc c).alloc d); W.heap[w.heap.size]? = some a ∧ W.heap[w.heap.size + 1]? = some b ∧ W.heap[w.heap.size + 1 + 1]? = some c ∧ W.heap[w.heap.size + 1 + 1 + 1]? = some d ∧ Below w.heap.size w W := by
  intro W
  have h1 := World.alloc_heap_new w a
  have h2 := World.alloc_heap_new (w.alloc a) b
  have h3 := World.alloc_heap_new ((w.alloc a).alloc b) c
  have h4 := World.alloc_heap_new (((w.alloc a).alloc b).alloc c) d
  simp only [World.size_alloc] at h2 h3 h4
  exact ⟨blk_alloc (blk_alloc (blk_alloc h1 _) _) _, blk_alloc (blk_alloc h2 _) _, blk_alloc h3 _, h4, below_alloc (below_alloc (below_alloc (below_alloc (Below.refl _ _) _) _) _) _⟩
theorem ownB_form {e : Nat} {W : World} {base : Nat} {v : Value} {r : List Int} (h : OwnB e W base v r) (h0 : 0 < r.length) : ∃ g c, v = .slice (some ⟨g, 0, none⟩) r.length c ∧ base ≤ g ∧ r.length ≤ c ∧ Buf e W g r.length r := by
  rcases h with ⟨rfl, _⟩ | ⟨g, c, h1, h2, h3, h4⟩
  · simp at h0
  · exact ⟨g, c, h1, h3, h2, h4⟩
theorem lits2 (w : World) (a b : Obj) : let W := ((w.alloc a).alloc b); W.heap[w.heap.size]? = some a ∧ W.heap[w.heap.size + 1]? = some b ∧ Below w.heap.size w W := by
  intro W
  have h1 := World.alloc_heap_new w a
  have h2 := World.alloc_heap_new (w.alloc a) b
  simp only [World.size_alloc] at h2
  exact ⟨blk_alloc h1 _, h2, below_alloc (below_alloc (Below.refl _ _) _) _⟩
theorem lives_chunks : grid_Chunks.f 10 [5] [2] = some (3, 0) := by decide +kernel
theorem lives_cut : grid_Cut.f 10 [97, 98, 99, 100, 101] 1 [5] [2] [2] [45] = some ([101, 45], 0) := by decide +kernel
theorem lives_resize : grid_Resize.f 10 [97, 98, 99, 100] 1 [2, 2] [3, 1] [45] = some ([97, 99, 45], 0) := by decide +kernel
set_option maxHeartbeats 4000000 in
set_option maxRecDepth 10000 in
theorem slabvaultlaw13_lives.calls (r : Bool) (w : World) (h : slabvaultlaw13_lives.f = some r) : Calls Try.prog 14 #[] w fun e w' => e = .returned (.bool r) ∧ Below w.heap.size w w' := by
  cases h
  go_enter Try.func14, Try.ntmps14
  obtain ⟨a1, a2, hb⟩ := lits2 w (.cells #[.int .i64 5] 3) (.cells #[.int .i64 2] 3)
  have A1 := Aside0.mk (C_lit .i64 [5] a1 (by decide))
  have A2 := Aside0.mk (C_lit .i64 [2] a2 (by decide))
  have HB := Aside0.mk hb
  clear a1 a2 hb
  go_upto_region 2 with (go_at_call 25; refine (grid_Chunks.calls 10 (some ⟨w.heap.size, 0, none⟩) 1 [5] (some ⟨w.heap.size + 1, 0, none⟩) 1 [2] 3 0 _ A1.out (Nat.le_refl _) A2.out (Nat.le_refl _) lives_chunks).mono ?_; rintro e_ w1 ⟨rfl, ⟨n1, rfl⟩⟩)
  have HB1 := Aside0.mk (pw_below_drewN HB.out n1)
  clear HB A1 A2
  generalize (((w.alloc (.cells #[.int .i64 5] 3)).alloc (.cells #[.int .i64 2] 3)).drewN n1) = w1 at HB1 ⊢
  have hc1 : (convert 31 31 (.slice (some ⟨w1.heap.size, 0, none⟩) 5 5)).run Try.prog (w1.alloc (.cells #[.int .u8 97, .int .u8 98, .int .u8 99, .int .u8 100, .int .u8 101] 5)) = .ok (.slice (some ⟨w1.heap.size, 0, none⟩) 5 5) (w1.alloc (.cells #[.int .u8 97, .int .u8 98, .int .u8 99, .int .u8 100, .int .u8 101] 5 (5, 6))) := Lib.run_convert_bytes_const w1 31 5 _ 5 5 Try.underlying31 Try.underlying5
  have hc2 : (convert 31 31 (.slice (some ⟨w1.heap.size + 1 + 1 + 1 + 1, 0, none⟩) 1 1)).run Try.prog (((((w1.alloc (.cells #[.int .u8 97, .int .u8 98, .int .u8 99, .int .u8 100, .int .u8 101] 5 (5, 6))).alloc (.cells #[.int .i64 5] 3)).alloc (.cells #[.int .i64 2] 3)).alloc (.cells #[.int .i64 2] 3)).alloc (.cells #[.int .u8 45] 5)) = .ok (.slice (some ⟨w1.heap.size + 1 + 1 + 1 + 1, 0, none⟩) 1 1) (((((w1.alloc (.cells #[.int .u8 97, .int .u8 98, .int .u8 99, .int .u8 100, .int .u8 101] 5 (5, 6))).alloc (.cells #[.int .i64 5] 3)).alloc (.cells #[.int .i64 2] 3)).alloc (.cells #[.int .i64 2] 3)).alloc (.cells #[.int .u8 45] 5 (1, 2))) := by
    have := Lib.run_convert_bytes_const (P := Try.prog) ((((w1.alloc (.cells #[.int .u8 97, .int .u8 98, .int .u8 99, .int .u8 100, .int .u8 101] 5 (5, 6))).alloc (.cells #[.int .i64 5] 3)).alloc (.cells #[.int .i64 2] 3)).alloc (.cells #[.int .i64 2] 3)) 31 5 #[.int .u8 45] 1 1 Try.underlying31 Try.underlying5
    simp only [World.size_alloc] at this
    exact this
  obtain ⟨a1, a2, a3, a4, a5, hb⟩ := lits5 w1 (.cells #[.int .u8 97, .int .u8 98, .int .u8 99, .int .u8 100, .int .u8 101] 5 (5, 6)) (.cells #[.int .i64 5] 3) (.cells #[.int .i64 2] 3) (.cells #[.int .i64 2] 3) (.cells #[.int .u8 45] 5 (1, 2))
  have A1 := Aside0.mk (C_lit .u8 [97, 98, 99, 100, 101] a1 (by decide))
  have A2 := Aside0.mk (C_lit .i64 [5] a2 (by decide))
  have A3 := Aside0.mk (C_lit .i64 [2] a3 (by decide))
  have A4 := Aside0.mk (C_lit .i64 [2] a4 (by decide))
  have A5 := Aside0.mk (C_lit .u8 [45] a5 (by decide))
  have HB2 := Aside0.mk (below_step HB1.out hb)
  clear a1 a2 a3 a4 a5 hb HB1
  go_upto_region 3 with (go_at_call 17; refine (grid_Cut.calls 10 (some ⟨w1.heap.size, 0, none⟩) 5 [97, 98, 99, 100, 101] 1 (some ⟨w1.heap.size + 1, 0, none⟩) 1 [5] (some ⟨w1.heap.size + 1 + 1, 0, none⟩) 1 [2] (some ⟨w1.heap.size + 1 + 1 + 1, 0, none⟩) 1 [2] (some ⟨w1.heap.size + 1 + 1 + 1 + 1, 0, none⟩) 1 [45] [101, 45] 0 _ A1.out (Nat.le_refl _) A2.out (Nat.le_refl _) A3.out (Nat.le_refl _) A4.out (Nat.le_refl _) A5.out (Nat.le_refl _) lives_cut).mono ?_; rintro e_ w2 ⟨v2, rfl, ho, hb⟩; have HO := Aside0.mk ho; have HBB := Aside0.mk hb; have HB3 := Aside0.mk (below_step HB2.out hb); clear ho hb)
  obtain ⟨g2, c2, rfl, -, -, hb2⟩ := ownB_form HO.out (by decide)
  have BF2 := Aside0.mk hb2
  clear A1 A2 A3 A4 A5 HB2 HBB hc1 hc2 HO hb2
  have hc1 : (convert 31 31 (.slice (some ⟨w2.heap.size, 0, none⟩) 4 4)).run Try.prog (w2.alloc (.cells #[.int .u8 97, .int .u8 98, .int .u8 99, .int .u8 100] 5)) = .ok (.slice (some ⟨w2.heap.size, 0, none⟩) 4 4) (w2.alloc (.cells #[.int .u8 97, .int .u8 98, .int .u8 99, .int .u8 100] 5 (4, 5))) := Lib.run_convert_bytes_const w2 31 5 _ 4 4 Try.underlying31 Try.underlying5
  have hc2 : (convert 31 31 (.slice (some ⟨w2.heap.size + 1 + 1 + 1, 0, none⟩) 1 1)).run Try.prog ((((w2.alloc (.cells #[.int .u8 97, .int .u8 98, .int .u8 99, .int .u8 100] 5 (4, 5))).alloc (.cells #[.int .i64 2, .int .i64 2] 3)).alloc (.cells #[.int .i64 3, .int .i64 1] 3)).alloc (.cells #[.int .u8 45] 5)) = .ok (.slice (some ⟨w2.heap.size + 1 + 1 + 1, 0, none⟩) 1 1) ((((w2.alloc (.cells #[.int .u8 97, .int .u8 98, .int .u8 99, .int .u8 100] 5 (4, 5))).alloc (.cells #[.int .i64 2, .int .i64 2] 3)).alloc (.cells #[.int .i64 3, .int .i64 1] 3)).alloc (.cells #[.int .u8 45] 5 (1, 2))) := by
    have := Lib.run_convert_bytes_const (P := Try.prog) (((w2.alloc (.cells #[.int .u8 97, .int .u8 98, .int .u8 99, .int .u8 100] 5 (4, 5))).alloc (.cells #[.int .i64 2, .int .i64 2] 3)).alloc (.cells #[.int .i64 3, .int .i64 1] 3)) 31 5 #[.int .u8 45] 1 1 Try.underlying31 Try.underlying5
    simp only [World.size_alloc] at this
    exact this
  obtain ⟨a1, a2, a3, a4, hb⟩ := lits4 w2 (.cells #[.int .u8 97, .int .u8 98, .int .u8 99, .int .u8 100] 5 (4, 5)) (.cells #[.int .i64 2, .int .i64 2] 3) (.cells #[.int .i64 3, .int .i64 1] 3) (.cells #[.int .u8 45] 5 (1, 2))
  have A1 := Aside0.mk (C_lit .u8 [97, 98, 99, 100] a1 (by decide))
  have A2 := Aside0.mk (C_lit .i64 [2, 2] a2 (by decide))
  have A3 := Aside0.mk (C_lit .i64 [3, 1] a3 (by decide))
  have A4 := Aside0.mk (C_lit .u8 [45] a4 (by decide))
  have HB4 := Aside0.mk hb
  clear a1 a2 a3 a4 hb
  go_upto_region 4 with (go_at_call 21; refine (grid_Resize.calls 10 (some ⟨w2.heap.size, 0, none⟩) 4 [97, 98, 99, 100] 1 (some ⟨w2.heap.size + 1, 0, none⟩) 2 [2, 2] (some ⟨w2.heap.size + 1 + 1, 0, none⟩) 2 [3, 1] (some ⟨w2.heap.size + 1 + 1 + 1, 0, none⟩) 1 [45] [97, 99, 45] 0 _ A1.out (Nat.le_refl _) A2.out (Nat.le_refl _) A3.out (Nat.le_refl _) A4.out (Nat.le_refl _) lives_resize).mono ?_; rintro e_ w3 ⟨v3, rfl, ho, hb⟩; have HO := Aside0.mk ho; have HB5 := Aside0.mk (below_step HB4.out hb); clear ho hb)
  obtain ⟨g3, c3, rfl, -, -, hb3⟩ := ownB_form HO.out (by decide)
  have hs1 := Kd.C_string (P := Try.prog) (A := some ⟨g2, 0, none⟩) (c := c2) Try.underlying31 Try.underlying5 Try.underlying9 ((BF2.out.below HB5.out).C rfl)
  have hs2 := Kd.C_string (P := Try.prog) (A := some ⟨g3, 0, none⟩) (c := c3) Try.underlying31 Try.underlying5 Try.underlying9 (hb3.C rfl)
  rw [show strOfNums [101, 45] = ⟨#[101, 45]⟩ by decide +kernel] at hs1
  rw [show strOfNums [97, 99, 45] = ⟨#[97, 99, 45]⟩ by decide +kernel] at hs2
  have hs1 := (show (convert 31 9 (.slice (some ⟨g2, 0, none⟩) 2 c2)).run Try.prog w3 = .ok (.string ⟨#[101, 45]⟩) w3 from hs1)
  have hs2 := (show (convert 31 9 (.slice (some ⟨g3, 0, none⟩) 3 c3)).run Try.prog w3 = .ok (.string ⟨#[97, 99, 45]⟩) w3 from hs2)
  have HBE := Aside0.mk (below_step HB3.out HB5.out)
  clear A1 A2 A3 A4 HB4 HB5 BF2 hb3 HO HB3 hc1 hc2
  go_wp2
  go_ret
  exact ⟨rfl, HBE.out⟩
end
end Go.Proofs.Ytjbjofmcmjojlab.Wk
end
section
namespace Go.Proofs.Ytjbjofmcmjojlab.Wk
open Go.RowKit Go.Proofs.YtjbjofmcmjojlabW.PrintWords Go.Proofs.YtjbjofmcmjojlabW.PrintLast Go.Proofs.YtjbjofmcmjojlabW.PrintMore
attribute [local go_sem] max2_int min2_int max_two min_two max_three min_three max_four min_four
set_option linter.unusedVariables false
set_option linter.unusedSimpArgs false
mutual
def slabvaultref12_Elements.l0 : Nat → List Int → Int → Int → Option (Int × Int)
  | 0, _, _, _ => none
  | k + 1, x0, x4, x5 => if x5 < (x0.length : Int) then (if 0 ≤ x5 then (if (rd x0 x5) < 0 then (some (0, 2)) else (if (rd x0 x5) > 1048576 then (some (0, 2)) else (slabvaultref12_Elements.l0 k x0 x4 (wrap64 (x5 + 1))))) else (none)) else (slabvaultref12_Elements.l1 k x0 x4 0)
def slabvaultref12_Elements.l1 : Nat → List Int → Int → Int → Option (Int × Int)
  | 0, _, _, _ => none
  | k + 1, x0, x4, x6 => if x6 < (x0.length : Int) then (if 0 ≤ x6 then (if (rd x0 x6) = 0 then (some (0, 0)) else (slabvaultref12_Elements.l1 k x0 x4 (wrap64 (x6 + 1)))) else (none)) else (slabvaultref12_Elements.l2 k x0 x4 0)
def slabvaultref12_Elements.l2 : Nat → List Int → Int → Int → Option (Int × Int)
  | 0, _, _, _ => none
  | k + 1, x0, x4, x7 => if x7 < (x0.length : Int) then (if 0 ≤ x7 then (if (wrap64 (x4 * (rd x0 x7))) > 1048576 then (some (0, 3)) else (slabvaultref12_Elements.l2 k x0 (wrap64 (x4 * (rd x0 x7))) (wrap64 (x7 + 1)))) else (none)) else (some (x4, 0))
end
def slabvaultref12_Elements.f (k : Nat) (l0 : List Int) : Option (Int × Int) := if (l0.length : Int) > 4 then (some (0, 2)) else (slabvaultref12_Elements.l0 k l0 1 0)
set_option maxHeartbeats 8000000 in
set_option maxRecDepth 100000 in
theorem slabvaultref12_Elements.calls (k : Nat) (A0 : Option Addr) (c0 : Nat) (l0 : List Int) (r1 : Int) (r2 : Int) (w : World) (hr0 : Kd.C (Kd.int .i64) w A0 l0.length l0) (hc0 : l0.length ≤ c0) (h : slabvaultref12_Elements.f k l0 = some (r1, r2)) :
    Calls Try.prog 24 #[.slice A0 l0.length c0] w fun e w' => e = .returned (.tuple #[.int .i64 r1, .int .i64 r2]) ∧ Drawn0 w w' := by
  have HR0 := Aside0.mk hr0
  have HC0 := Aside0.mk hc0
  clear hr0 hc0
  have H : (if (l0.length : Int) > 4 then (some (0, 2)) else (slabvaultref12_Elements.l0 k l0 1 0)) = some (r1, r2) := h
  clear h
  by_cases c2 : (l0.length : Int) > 4
  · rw [if_pos c2] at H
    have c2b0 : decide (4 < (l0.length : Int)) = true := decide_eq_true c2
    have c2b1 : decide (4 < l0.length) = true := decide_eq_true (by omega)
    clear c2
    simp only [Option.some.injEq, Prod.mk.injEq] at H
    obtain ⟨rfl, rfl⟩ := H
    go_enter Try.func24, Try.ntmps24
    go_wp2
    go_ret2
    exact ⟨by first | rfl | (simp; done) | (simp [*]; done), by repeat (first | exact Drawn0.refl _ | apply Drawn0.step)⟩
  · rw [if_neg c2] at H
    have c2b0 : decide (4 < (l0.length : Int)) = false := decide_eq_false c2
    have c2b1 : decide (4 < l0.length) = false := decide_eq_false (by omega)
    clear c2
    have H' := Aside0.mk H
    clear H
    go_enter Try.func24, Try.ntmps24
    go_wp2
    go_loopg [5] k (fun kq v5 w' => ∃ (x5_1 : Int), v5 = .int .i64 x5_1 ∧ Aside0 (slabvaultref12_Elements.l0 kq l0 1 x5_1 = some (r1, r2)) ∧ Aside0 (kq ≤ k) ∧ Drawn0 w w')
    case atStart => exact ⟨(0), (by first | rfl | (simp; done) | (simp [*]; done)), H', ⟨Nat.le_refl _⟩, by repeat (first | exact Drawn0.refl _ | apply Drawn0.step)⟩
    case round =>
      clear H'
      try clear c2
      try clear c2b0
      try clear c2b1
      try clear p2
      obtain ⟨x5_1, rfl, HA, HK1, ⟨m1, rfl⟩⟩ := hrel
      cases gk with
      | zero => exact absurd HA.out (by simp [slabvaultref12_Elements.l0])
      | succ k1 =>
        have H := HA.out
        clear HA
        simp only [slabvaultref12_Elements.l0] at H
        by_cases c3 : x5_1 < (l0.length : Int)
        · rw [if_pos c3] at H
          have c3b0 : decide (x5_1 < (l0.length : Int)) = true := decide_eq_true c3
          clear c3
          by_cases c4 : 0 ≤ x5_1
          · rw [if_pos c4] at H
            have c4b0 : decide (0 ≤ x5_1) = true := decide_eq_true c4
            clear c4
            by_cases c5 : (rd l0 x5_1) < 0
            · rw [if_pos c5] at H
              have c5b0 : decide ((rd l0 x5_1) < 0) = true := decide_eq_true c5
              clear c5
              simp only [Option.some.injEq, Prod.mk.injEq] at H
              obtain ⟨rfl, rfl⟩ := H
              have p139 : 0 ≤ (x5_1 : Int) := of_decide_eq_true (by first | (with_reducible assumption) | assumption)
              have q139 : x5_1 < (l0.length : Int) := of_decide_eq_true (by first | (with_reducible assumption) | assumption)
              obtain ⟨ad139, e139, hx139_0⟩ := Kd.at_int HR0.out x5_1 p139 q139
              cases e139
              replace p139 := eq_true p139
              replace q139 := eq_true q139
              go_wp2
              go_ret2
              exact ⟨by first | rfl | (simp; done) | (simp [*]; done), by repeat (first | exact Drawn0.refl _ | apply Drawn0.step)⟩
            · rw [if_neg c5] at H
              have c5b0 : decide ((rd l0 x5_1) < 0) = false := decide_eq_false c5
              clear c5
              by_cases c6 : (rd l0 x5_1) > 1048576
              · rw [if_pos c6] at H
                have c6b0 : decide (1048576 < (rd l0 x5_1)) = true := decide_eq_true c6
                clear c6
                simp only [Option.some.injEq, Prod.mk.injEq] at H
                obtain ⟨rfl, rfl⟩ := H
                have p139 : 0 ≤ (x5_1 : Int) := of_decide_eq_true (by first | (with_reducible assumption) | assumption)
                have q139 : x5_1 < (l0.length : Int) := of_decide_eq_true (by first | (with_reducible assumption) | assumption)
                obtain ⟨ad139, e139, hx139_0⟩ := Kd.at_int HR0.out x5_1 p139 q139
                cases e139
                replace p139 := eq_true p139
                replace q139 := eq_true q139
                have p140 : 0 ≤ (x5_1 : Int) := of_decide_eq_true (by first | (with_reducible assumption) | assumption)
                have q140 : x5_1 < (l0.length : Int) := of_decide_eq_true (by first | (with_reducible assumption) | assumption)
                obtain ⟨ad140, e140, hx140_0⟩ := Kd.at_int HR0.out x5_1 p140 q140
                obtain rfl : ad139 = ad140 := (by injection e140)
                replace p140 := eq_true p140
                replace q140 := eq_true q140
                go_wp2
                go_ret2
                exact ⟨by first | rfl | (simp; done) | (simp [*]; done), by repeat (first | exact Drawn0.refl _ | apply Drawn0.step)⟩
              · rw [if_neg c6] at H
                have c6b0 : decide (1048576 < (rd l0 x5_1)) = false := decide_eq_false c6
                clear c6
                have H' := Aside0.mk H
                clear H
                have p139 : 0 ≤ (x5_1 : Int) := of_decide_eq_true (by first | (with_reducible assumption) | assumption)
                have q139 : x5_1 < (l0.length : Int) := of_decide_eq_true (by first | (with_reducible assumption) | assumption)
                obtain ⟨ad139, e139, hx139_0⟩ := Kd.at_int HR0.out x5_1 p139 q139
                cases e139
                replace p139 := eq_true p139
                replace q139 := eq_true q139
                have p140 : 0 ≤ (x5_1 : Int) := of_decide_eq_true (by first | (with_reducible assumption) | assumption)
                have q140 : x5_1 < (l0.length : Int) := of_decide_eq_true (by first | (with_reducible assumption) | assumption)
                obtain ⟨ad140, e140, hx140_0⟩ := Kd.at_int HR0.out x5_1 p140 q140
                obtain rfl : ad139 = ad140 := (by injection e140)
                replace p140 := eq_true p140
                replace q140 := eq_true q140
                go_wp2
                go_roundg k1
                case measure => have := HK1.out; omega
                case rel => exact ⟨(wrap64 (x5_1 + 1)), (by first | rfl | (simp; done) | (simp [*]; done)), H', ⟨by have := HK1.out; omega⟩, by repeat (first | exact Drawn0.refl _ | apply Drawn0.step)⟩
          · rw [if_neg c4] at H
            exact absurd H (by simp)
        · rw [if_neg c3] at H
          have c3b0 : decide (x5_1 < (l0.length : Int)) = false := decide_eq_false c3
          clear c3
          have H' := Aside0.mk H
          clear H
          go_wp2
          go_loopg [6] k1 (fun kq v6 w' => ∃ (x6_2 : Int), v6 = .int .i64 x6_2 ∧ Aside0 (slabvaultref12_Elements.l1 kq l0 1 x6_2 = some (r1, r2)) ∧ Aside0 (kq ≤ k1) ∧ Drawn0 w w')
          case atStart => exact ⟨(0), (by first | rfl | (simp; done) | (simp [*]; done)), H', ⟨Nat.le_refl _⟩, by repeat (first | exact Drawn0.refl _ | apply Drawn0.step)⟩
          case round =>
            clear H'
            try clear p1
            try clear q1
            try clear hx1
            try clear c2
            try clear c2b0
            try clear c2b1
            try clear p2
            try clear c3
            try clear c3b0
            try clear c4
            try clear c4b0
            try clear c5
            try clear c5b0
            try clear c6
            try clear c6b0
            try clear p6
            try clear hx139_0
            try clear hx140_0
            try clear p139
            try clear p140
            try clear p2
            try clear q139
            try clear q140
            obtain ⟨x6_2, rfl, HA, HK2, ⟨m2, rfl⟩⟩ := hrel
            cases gk with
            | zero => exact absurd HA.out (by simp [slabvaultref12_Elements.l1])
            | succ k2 =>
              have H := HA.out
              clear HA
              simp only [slabvaultref12_Elements.l1] at H
              by_cases c7 : x6_2 < (l0.length : Int)
              · rw [if_pos c7] at H
                have c7b0 : decide (x6_2 < (l0.length : Int)) = true := decide_eq_true c7
                clear c7
                by_cases c8 : 0 ≤ x6_2
                · rw [if_pos c8] at H
                  have c8b0 : decide (0 ≤ x6_2) = true := decide_eq_true c8
                  clear c8
                  by_cases c9 : (rd l0 x6_2) = 0
                  · rw [if_pos c9] at H
                    have c9b0 : ((rd l0 x6_2) == 0) = true := beq_iff_eq.mpr c9
                    have c9b1 : ((rd l0 x6_2) != 0) = false := bne_eq_false_iff_eq.mpr c9
                    clear c9
                    simp only [Option.some.injEq, Prod.mk.injEq] at H
                    obtain ⟨rfl, rfl⟩ := H
                    have p141 : 0 ≤ (x6_2 : Int) := of_decide_eq_true (by first | (with_reducible assumption) | assumption)
                    have q141 : x6_2 < (l0.length : Int) := of_decide_eq_true (by first | (with_reducible assumption) | assumption)
                    obtain ⟨ad141, e141, hx141_0⟩ := Kd.at_int HR0.out x6_2 p141 q141
                    cases e141
                    replace p141 := eq_true p141
                    replace q141 := eq_true q141
                    go_wp2
                    go_ret2
                    exact ⟨by first | rfl | (simp; done) | (simp [*]; done), by repeat (first | exact Drawn0.refl _ | apply Drawn0.step)⟩
                  · rw [if_neg c9] at H
                    have c9b0 : ((rd l0 x6_2) == 0) = false := beq_eq_false_iff_ne.mpr c9
                    have c9b1 : ((rd l0 x6_2) != 0) = true := bne_iff_ne.mpr c9
                    have H' := Aside0.mk H
                    clear H
                    have p141 : 0 ≤ (x6_2 : Int) := of_decide_eq_true (by first | (with_reducible assumption) | assumption)
                    have q141 : x6_2 < (l0.length : Int) := of_decide_eq_true (by first | (with_reducible assumption) | assumption)
                    obtain ⟨ad141, e141, hx141_0⟩ := Kd.at_int HR0.out x6_2 p141 q141
                    cases e141
                    replace p141 := eq_true p141
                    replace q141 := eq_true q141
                    go_wp2
                    go_roundg k2
                    case measure => have := HK1.out; have := HK2.out; omega
                    case rel => exact ⟨(wrap64 (x6_2 + 1)), (by first | rfl | (simp; done) | (simp [*]; done)), H', ⟨by have := HK1.out; have := HK2.out; omega⟩, by repeat (first | exact Drawn0.refl _ | apply Drawn0.step)⟩
                · rw [if_neg c8] at H
                  exact absurd H (by simp)
              · rw [if_neg c7] at H
                have c7b0 : decide (x6_2 < (l0.length : Int)) = false := decide_eq_false c7
                clear c7
                have H' := Aside0.mk H
                clear H
                go_wp2
                go_loopg [4, 7] k2 (fun kq v4 v7 w' => ∃ (x4_3 : Int) (x7_3 : Int), v4 = .int .i64 x4_3 ∧ v7 = .int .i64 x7_3 ∧ Aside0 (slabvaultref12_Elements.l2 kq l0 x4_3 x7_3 = some (r1, r2)) ∧ Aside0 (kq ≤ k2) ∧ Drawn0 w w')
                case atStart => exact ⟨(1), (0), (by first | rfl | (simp; done) | (simp [*]; done)), (by first | rfl | (simp; done) | (simp [*]; done)), H', ⟨Nat.le_refl _⟩, by repeat (first | exact Drawn0.refl _ | apply Drawn0.step)⟩
                case round =>
                  clear H'
                  try clear p1
                  try clear q1
                  try clear hx1
                  try clear c2
                  try clear c2b0
                  try clear c2b1
                  try clear p2
                  try clear c3
                  try clear c3b0
                  try clear c4
                  try clear c4b0
                  try clear c5
                  try clear c5b0
                  try clear c6
                  try clear c6b0
                  try clear p6
                  try clear c7
                  try clear c7b0
                  try clear c8
                  try clear c8b0
                  try clear c9
                  try clear c9b0
                  try clear c9b1
                  try clear hx139_0
                  try clear hx140_0
                  try clear hx141_0
                  try clear p1
                  try clear p139
                  try clear p140
                  try clear p141
                  try clear p2
                  try clear p6
                  try clear q1
                  try clear q139
                  try clear q140
                  try clear q141
                  obtain ⟨x4_3, x7_3, rfl, rfl, HA, HK3, ⟨m3, rfl⟩⟩ := hrel
                  cases gk with
                  | zero => exact absurd HA.out (by simp [slabvaultref12_Elements.l2])
                  | succ k3 =>
                    have H := HA.out
                    clear HA
                    simp only [slabvaultref12_Elements.l2] at H
                    by_cases c10 : x7_3 < (l0.length : Int)
                    · rw [if_pos c10] at H
                      have c10b0 : decide (x7_3 < (l0.length : Int)) = true := decide_eq_true c10
                      clear c10
                      by_cases c11 : 0 ≤ x7_3
                      · rw [if_pos c11] at H
                        have c11b0 : decide (0 ≤ x7_3) = true := decide_eq_true c11
                        clear c11
                        by_cases c12 : (wrap64 (x4_3 * (rd l0 x7_3))) > 1048576
                        · rw [if_pos c12] at H
                          have c12b0 : decide (1048576 < (wrap64 (x4_3 * (rd l0 x7_3)))) = true := decide_eq_true c12
                          clear c12
                          simp only [Option.some.injEq, Prod.mk.injEq] at H
                          obtain ⟨rfl, rfl⟩ := H
                          have p142 : 0 ≤ (x7_3 : Int) := of_decide_eq_true (by first | (with_reducible assumption) | assumption)
                          have q142 : x7_3 < (l0.length : Int) := of_decide_eq_true (by first | (with_reducible assumption) | assumption)
                          obtain ⟨ad142, e142, hx142_0⟩ := Kd.at_int HR0.out x7_3 p142 q142
                          cases e142
                          replace p142 := eq_true p142
                          replace q142 := eq_true q142
                          go_wp2
                          go_ret2
                          exact ⟨by first | rfl | (simp; done) | (simp [*]; done), by repeat (first | exact Drawn0.refl _ | apply Drawn0.step)⟩
                        · rw [if_neg c12] at H
                          have c12b0 : decide (1048576 < (wrap64 (x4_3 * (rd l0 x7_3)))) = false := decide_eq_false c12
                          clear c12
                          have H' := Aside0.mk H
                          clear H
                          have p142 : 0 ≤ (x7_3 : Int) := of_decide_eq_true (by first | (with_reducible assumption) | assumption)
                          have q142 : x7_3 < (l0.length : Int) := of_decide_eq_true (by first | (with_reducible assumption) | assumption)
                          obtain ⟨ad142, e142, hx142_0⟩ := Kd.at_int HR0.out x7_3 p142 q142
                          cases e142
                          replace p142 := eq_true p142
                          replace q142 := eq_true q142
                          go_wp2
                          go_roundg k3
                          case measure => have := HK1.out; have := HK2.out; have := HK3.out; omega
                          case rel => exact ⟨(wrap64 (x4_3 * (rd l0 x7_3))), (wrap64 (x7_3 + 1)), (by first | rfl | (simp; done) | (simp [*]; done)), (by first | rfl | (simp; done) | (simp [*]; done)), H', ⟨by have := HK1.out; have := HK2.out; have := HK3.out; omega⟩, by repeat (first | exact Drawn0.refl _ | apply Drawn0.step)⟩
                      · rw [if_neg c11] at H
                        exact absurd H (by simp)
                    · rw [if_neg c10] at H
                      have c10b0 : decide (x7_3 < (l0.length : Int)) = false := decide_eq_false c10
                      clear c10
                      simp only [Option.some.injEq, Prod.mk.injEq] at H
                      obtain ⟨rfl, rfl⟩ := H
                      go_wp2
                      go_ret2
                      exact ⟨by first | rfl | (simp; done) | (simp [*]; done), by repeat (first | exact Drawn0.refl _ | apply Drawn0.step)⟩
end Go.Proofs.Ytjbjofmcmjojlab.Wk
end
section
namespace Go.Proofs.Ytjbjofmcmjojlab.Wk
open Go.RowKit Go.Proofs.YtjbjofmcmjojlabW.PrintWords Go.Proofs.YtjbjofmcmjojlabW.PrintLast Go.Proofs.YtjbjofmcmjojlabW.PrintMore
attribute [local go_sem] max2_int min2_int max_two min_two max_three min_three max_four min_four
set_option linter.unusedVariables false
set_option linter.unusedSimpArgs false
def slabvaultlaw13_wide.f (k : Nat) (l0 : List Int) : Option (Bool) := (slabvaultref12_Elements.f k l0).bind fun bt239 => (some (decide (bt239.1 > 3000)))
set_option maxHeartbeats 8000000 in
set_option maxRecDepth 100000 in
theorem slabvaultlaw13_wide.calls (k : Nat) (A0 : Option Addr) (c0 : Nat) (l0 : List Int) (r : Bool) (w : World) (hr0 : Kd.C (Kd.int .i64) w A0 l0.length l0) (hc0 : l0.length ≤ c0) (h : slabvaultlaw13_wide.f k l0 = some r) :
    Calls Try.prog 23 #[.slice A0 l0.length c0] w fun e w' => e = .returned (.bool r) ∧ Drawn0 w w' := by
  have HR0 := Aside0.mk hr0
  have HC0 := Aside0.mk hc0
  clear hr0 hc0
  have H : ((slabvaultref12_Elements.f k l0).bind fun bt239 => (some (decide (bt239.1 > 3000)))) = some r := h
  clear h
  replace H := Option.bind_eq_some_iff.mp H
  obtain ⟨⟨t239, t240⟩, A20, H⟩ := H
  replace H : (some (decide (t239 > 3000))) = some r := H
  have A2 := Aside0.mk A20
  clear A20
  obtain rfl := Option.some.inj H
  go_enter Try.func23, Try.ntmps23
  go_wp2_with (first | ((with_reducible refine gate_callee (f := 24) rfl ?_); refine goesL_ (some 7) rfl rfl Try.func24 (by kernel_rfl) rfl #[.slice A0 l0.length c0] rfl (by (try simp only [List.map_toArray, List.map_cons, List.map_nil]); first | done | rfl | (simp only [List.length_drop, List.length_take]; rfl)) ?_; (with_reducible refine (slabvaultref12_Elements.calls k _ _ l0 t239 t240 _ ?side1 ?side2 A2.out).mono ?_); (case side1 => repeat (first | exact HR0.out | (with_reducible refine Kd.C_alloc ?_ _) | (with_reducible refine Kd.C_drewN ?_ _) | (with_reducible refine Kd.C_drew ?_))); (case side2 => exact HC0.out); rintro e w' ⟨rfl, ⟨nd, rfl⟩⟩; refine ⟨_, rfl, ?_⟩))
  go_ret
  exact ⟨by first | rfl | (simp; done) | (simp [*]; done), by repeat (first | exact Drawn0.refl _ | apply Drawn0.step)⟩
end Go.Proofs.Ytjbjofmcmjojlab.Wk
end
section
namespace Go.Proofs.Ytjbjofmcmjojlab.Wk
open Go.RowKit Go.Proofs.YtjbjofmcmjojlabW.PrintWords Go.Proofs.YtjbjofmcmjojlabW.PrintLast Go.Proofs.YtjbjofmcmjojlabW.PrintMore
attribute [local go_sem] max2_int min2_int max_two min_two max_three min_three max_four min_four
set_option linter.unusedVariables false
set_option linter.unusedSimpArgs false
def slabvaultlaw13_heavy.f (k : Nat) (l0_0 : List Int) (a0_1 : Int) (l0_2 : List Int) (l0_3 : List Int) (l0_4 : List Int) (l0_5 : List Int) : Option (Bool) := if (l0_0.length : Int) > 10000 then (some true) else (if (l0_5.length : Int) > 10000 then (some true) else ((slabvaultlaw13_wide.f k l0_2).bind fun t242 => (if t242 = true then (some true) else ((slabvaultlaw13_wide.f k l0_3).bind fun t243 => (some t243)))))
set_option maxHeartbeats 8000000 in
set_option maxRecDepth 100000 in
theorem slabvaultlaw13_heavy.calls (k : Nat) (A0_0 : Option Addr) (c0_0 : Nat) (l0_0 : List Int) (a0_1 : Int) (A0_2 : Option Addr) (c0_2 : Nat) (l0_2 : List Int) (A0_3 : Option Addr) (c0_3 : Nat) (l0_3 : List Int) (A0_4 : Option Addr) (c0_4 : Nat) (l0_4 : List Int) (A0_5 : Option Addr) (c0_5 : Nat) (l0_5 : List Int) (r : Bool) (w : World) (hr0_0 : Kd.C (Kd.int .u8) w A0_0 l0_0.length l0_0) (hc0_0 : l0_0.length ≤ c0_0) (hr0_2 : Kd.C (Kd.int .i64) w A0_2 l0_2.length l0_2) (hc0_2 : l0_2.length ≤ c0_2) (hr0_3 : Kd.C (Kd.int .i64) w A0_3 l0_3.length l0_3) (hc0_3 : l0_3.length ≤ c0_3) (hr0_4 : Kd.C (Kd.int .i64) w A0_4 l0_4.length l0_4) (hc0_4 : l0_4.length ≤ c0_4) (hr0_5 : Kd.C (Kd.int .u8) w A0_5 l0_5.length l0_5) (hc0_5 : l0_5.length ≤ c0_5) (h : slabvaultlaw13_heavy.f k l0_0 a0_1 l0_2 l0_3 l0_4 l0_5 = some r) :
    Calls Try.prog 15 #[.agg #[.slice A0_0 l0_0.length c0_0, .int .i64 a0_1, .slice A0_2 l0_2.length c0_2, .slice A0_3 l0_3.length c0_3, .slice A0_4 l0_4.length c0_4, .slice A0_5 l0_5.length c0_5]] w fun e w' => e = .returned (.bool r) ∧ Below w.heap.size w w' := by
  have hu33 := Try.underlying33
  have HR0_0 := Aside0.mk hr0_0
  have HC0_0 := Aside0.mk hc0_0
  clear hr0_0 hc0_0
  have HR0_2 := Aside0.mk hr0_2
  have HC0_2 := Aside0.mk hc0_2
  clear hr0_2 hc0_2
  have HR0_3 := Aside0.mk hr0_3
  have HC0_3 := Aside0.mk hc0_3
  clear hr0_3 hc0_3
  have HR0_4 := Aside0.mk hr0_4
  have HC0_4 := Aside0.mk hc0_4
  clear hr0_4 hc0_4
  have HR0_5 := Aside0.mk hr0_5
  have HC0_5 := Aside0.mk hc0_5
  clear hr0_5 hc0_5
  have HB := Aside0.mk (Below.refl w.heap.size w)
  have H : (if (l0_0.length : Int) > 10000 then (some true) else (if (l0_5.length : Int) > 10000 then (some true) else ((slabvaultlaw13_wide.f k l0_2).bind fun t242 => (if t242 = true then (some true) else ((slabvaultlaw13_wide.f k l0_3).bind fun t243 => (some t243)))))) = some r := h
  clear h
  by_cases c2 : (l0_0.length : Int) > 10000
  · rw [if_pos c2] at H
    have c2b0 : decide (10000 < (l0_0.length : Int)) = true := decide_eq_true c2
    have c2b1 : decide (10000 < l0_0.length) = true := decide_eq_true (by omega)
    clear c2
    obtain rfl := Option.some.inj H
    go_enter Try.func15, Try.ntmps15
    go_wp2_with (first | ((with_reducible refine gate_dst (N := 1) rfl ?_); (try (refine gate_guard (by rfl) ?_; dsimp only)); refine box_event ?hg (N := 1) ?hd (cs := #[.slice A0_0 l0_0.length c0_0, .int .i64 a0_1, .slice A0_2 l0_2.length c0_2, .slice A0_3 l0_3.length c0_3, .slice A0_4 l0_4.length c0_4, .slice A0_5 l0_5.length c0_5]) (t := 33) ?hr ?_; (case hd => rfl); (case hg => rfl); (case hr => first | (go_simp; done) | (go_simp; rfl)); intro gb241 hg w3 hbox hb; have n0_ := Aside0.mk (below_step (by repeat (first | (with_reducible first | exact HB.out | apply below_alloc | apply pw_below_drewN | apply below_drew1) | exact HB.out)) hb); have n1_ := Aside0.mk (hbox); have n2_ := Aside0.mk ((by rw [hg]; exact (below_size (by repeat (first | (with_reducible first | exact HB.out | apply below_alloc | apply pw_below_drewN | apply below_drew1) | exact HB.out))) : w.heap.size ≤ gb241)); have n3_ := Aside0.mk ((by rw [hg]; exact (below_size (by repeat (first | (with_reducible first | exact HB.out | apply below_alloc | apply pw_below_drewN | apply below_drew1) | exact HB.out))) : w.heap.size ≤ gb241)); clear HB; have HB := n0_; have BK241 := n1_; have GW241 := n2_; have GE241 := n3_; clear n0_ n1_ n2_ n3_; clear hb hbox hg; have hcz4_0 : w3.cell? ⟨gb241, 0, none⟩ = some (.slice A0_0 l0_0.length c0_0) := (blk_cell BK241.out 0).trans rfl; have hcz4_1 : w3.cell? ⟨gb241, 1, none⟩ = some (.int .i64 a0_1) := (blk_cell BK241.out 1).trans rfl; have hcz4_2 : w3.cell? ⟨gb241, 2, none⟩ = some (.slice A0_2 l0_2.length c0_2) := (blk_cell BK241.out 2).trans rfl; have hcz4_3 : w3.cell? ⟨gb241, 3, none⟩ = some (.slice A0_3 l0_3.length c0_3) := (blk_cell BK241.out 3).trans rfl; have hcz4_4 : w3.cell? ⟨gb241, 4, none⟩ = some (.slice A0_4 l0_4.length c0_4) := (blk_cell BK241.out 4).trans rfl; have hcz4_5 : w3.cell? ⟨gb241, 5, none⟩ = some (.slice A0_5 l0_5.length c0_5) := (blk_cell BK241.out 5).trans rfl; have hfz4_0 := blk_frozen BK241.out 0; have hfz4_1 := blk_frozen BK241.out 1; have hfz4_2 := blk_frozen BK241.out 2; have hfz4_3 := blk_frozen BK241.out 3; have hfz4_4 := blk_frozen BK241.out 4; have hfz4_5 := blk_frozen BK241.out 5))
    go_ret
    exact ⟨by first | rfl | (simp [errW_none, errW_some] <;> rfl) | (simp [*, errW_none, errW_some] <;> rfl), by repeat (first | (with_reducible first | exact HB.out | apply below_alloc | apply pw_below_drewN | apply below_drew1 | refine below_set ?_ GE241.out) | exact HB.out)⟩
  · rw [if_neg c2] at H
    have c2b0 : decide (10000 < (l0_0.length : Int)) = false := decide_eq_false c2
    have c2b1 : decide (10000 < l0_0.length) = false := decide_eq_false (by omega)
    clear c2
    by_cases c5 : (l0_5.length : Int) > 10000
    · rw [if_pos c5] at H
      have c5b0 : decide (10000 < (l0_5.length : Int)) = true := decide_eq_true c5
      have c5b1 : decide (10000 < l0_5.length) = true := decide_eq_true (by omega)
      clear c5
      obtain rfl := Option.some.inj H
      go_enter Try.func15, Try.ntmps15
      go_wp2_with (first | ((with_reducible refine gate_dst (N := 1) rfl ?_); (try (refine gate_guard (by rfl) ?_; dsimp only)); refine box_event ?hg (N := 1) ?hd (cs := #[.slice A0_0 l0_0.length c0_0, .int .i64 a0_1, .slice A0_2 l0_2.length c0_2, .slice A0_3 l0_3.length c0_3, .slice A0_4 l0_4.length c0_4, .slice A0_5 l0_5.length c0_5]) (t := 33) ?hr ?_; (case hd => rfl); (case hg => rfl); (case hr => first | (go_simp; done) | (go_simp; rfl)); intro gb241 hg w6 hbox hb; have n0_ := Aside0.mk (below_step (by repeat (first | (with_reducible first | exact HB.out | apply below_alloc | apply pw_below_drewN | apply below_drew1) | exact HB.out)) hb); have n1_ := Aside0.mk (hbox); have n2_ := Aside0.mk ((by rw [hg]; exact (below_size (by repeat (first | (with_reducible first | exact HB.out | apply below_alloc | apply pw_below_drewN | apply below_drew1) | exact HB.out))) : w.heap.size ≤ gb241)); have n3_ := Aside0.mk ((by rw [hg]; exact (below_size (by repeat (first | (with_reducible first | exact HB.out | apply below_alloc | apply pw_below_drewN | apply below_drew1) | exact HB.out))) : w.heap.size ≤ gb241)); clear HB; have HB := n0_; have BK241 := n1_; have GW241 := n2_; have GE241 := n3_; clear n0_ n1_ n2_ n3_; clear hb hbox hg; have hcz7_0 : w6.cell? ⟨gb241, 0, none⟩ = some (.slice A0_0 l0_0.length c0_0) := (blk_cell BK241.out 0).trans rfl; have hcz7_1 : w6.cell? ⟨gb241, 1, none⟩ = some (.int .i64 a0_1) := (blk_cell BK241.out 1).trans rfl; have hcz7_2 : w6.cell? ⟨gb241, 2, none⟩ = some (.slice A0_2 l0_2.length c0_2) := (blk_cell BK241.out 2).trans rfl; have hcz7_3 : w6.cell? ⟨gb241, 3, none⟩ = some (.slice A0_3 l0_3.length c0_3) := (blk_cell BK241.out 3).trans rfl; have hcz7_4 : w6.cell? ⟨gb241, 4, none⟩ = some (.slice A0_4 l0_4.length c0_4) := (blk_cell BK241.out 4).trans rfl; have hcz7_5 : w6.cell? ⟨gb241, 5, none⟩ = some (.slice A0_5 l0_5.length c0_5) := (blk_cell BK241.out 5).trans rfl; have hfz7_0 := blk_frozen BK241.out 0; have hfz7_1 := blk_frozen BK241.out 1; have hfz7_2 := blk_frozen BK241.out 2; have hfz7_3 := blk_frozen BK241.out 3; have hfz7_4 := blk_frozen BK241.out 4; have hfz7_5 := blk_frozen BK241.out 5))
      go_ret
      exact ⟨by first | rfl | (simp [errW_none, errW_some] <;> rfl) | (simp [*, errW_none, errW_some] <;> rfl), by repeat (first | (with_reducible first | exact HB.out | apply below_alloc | apply pw_below_drewN | apply below_drew1 | refine below_set ?_ GE241.out) | exact HB.out)⟩
    · rw [if_neg c5] at H
      have c5b0 : decide (10000 < (l0_5.length : Int)) = false := decide_eq_false c5
      have c5b1 : decide (10000 < l0_5.length) = false := decide_eq_false (by omega)
      clear c5
      replace H := Option.bind_eq_some_iff.mp H
      obtain ⟨t242, A80, H⟩ := H
      replace H : (if t242 = true then (some true) else ((slabvaultlaw13_wide.f k l0_3).bind fun t243 => (some t243))) = some r := H
      have A8 := Aside0.mk A80
      clear A80
      by_cases c9 : t242 = true
      · subst c9
        have H1 : (some true) = some r := by rw [if_pos rfl] at H; exact H
        clear H
        have H := H1
        clear H1
        obtain rfl := Option.some.inj H
        go_enter Try.func15, Try.ntmps15
        go_wp2_with (first | ((with_reducible refine gate_dst (N := 1) rfl ?_); (try (refine gate_guard (by rfl) ?_; dsimp only)); refine box_event ?hg (N := 1) ?hd (cs := #[.slice A0_0 l0_0.length c0_0, .int .i64 a0_1, .slice A0_2 l0_2.length c0_2, .slice A0_3 l0_3.length c0_3, .slice A0_4 l0_4.length c0_4, .slice A0_5 l0_5.length c0_5]) (t := 33) ?hr ?_; (case hd => rfl); (case hg => rfl); (case hr => first | (go_simp; done) | (go_simp; rfl)); intro gb241 hg w10 hbox hb; have n0_ := Aside0.mk (below_step (by repeat (first | (with_reducible first | exact HB.out | apply below_alloc | apply pw_below_drewN | apply below_drew1) | exact HB.out)) hb); have n1_ := Aside0.mk (hbox); have n2_ := Aside0.mk ((by rw [hg]; exact (below_size (by repeat (first | (with_reducible first | exact HB.out | apply below_alloc | apply pw_below_drewN | apply below_drew1) | exact HB.out))) : w.heap.size ≤ gb241)); have n3_ := Aside0.mk ((by rw [hg]; exact (below_size (by repeat (first | (with_reducible first | exact HB.out | apply below_alloc | apply pw_below_drewN | apply below_drew1) | exact HB.out))) : w.heap.size ≤ gb241)); clear HB; have HB := n0_; have BK241 := n1_; have GW241 := n2_; have GE241 := n3_; clear n0_ n1_ n2_ n3_; clear hb hbox hg; have hcz11_0 : w10.cell? ⟨gb241, 0, none⟩ = some (.slice A0_0 l0_0.length c0_0) := (blk_cell BK241.out 0).trans rfl; have hcz11_1 : w10.cell? ⟨gb241, 1, none⟩ = some (.int .i64 a0_1) := (blk_cell BK241.out 1).trans rfl; have hcz11_2 : w10.cell? ⟨gb241, 2, none⟩ = some (.slice A0_2 l0_2.length c0_2) := (blk_cell BK241.out 2).trans rfl; have hcz11_3 : w10.cell? ⟨gb241, 3, none⟩ = some (.slice A0_3 l0_3.length c0_3) := (blk_cell BK241.out 3).trans rfl; have hcz11_4 : w10.cell? ⟨gb241, 4, none⟩ = some (.slice A0_4 l0_4.length c0_4) := (blk_cell BK241.out 4).trans rfl; have hcz11_5 : w10.cell? ⟨gb241, 5, none⟩ = some (.slice A0_5 l0_5.length c0_5) := (blk_cell BK241.out 5).trans rfl; have hfz11_0 := blk_frozen BK241.out 0; have hfz11_1 := blk_frozen BK241.out 1; have hfz11_2 := blk_frozen BK241.out 2; have hfz11_3 := blk_frozen BK241.out 3; have hfz11_4 := blk_frozen BK241.out 4; have hfz11_5 := blk_frozen BK241.out 5) | (go_at_call 23; (with_reducible refine (slabvaultlaw13_wide.calls k _ _ l0_2 true _ ?side1 ?side2 A8.out).mono ?_); (case side1 => repeat (first | exact (Kd.C_below HR0_2.out HB.out) | (with_reducible refine Kd.C_alloc ?_ _) | (with_reducible refine Kd.C_drewN ?_ _) | (with_reducible refine Kd.C_drew ?_))); (case side2 => exact HC0_2.out); rintro e w' ⟨rfl, ⟨nd, rfl⟩⟩))
        go_ret
        exact ⟨by first | rfl | (simp [errW_none, errW_some] <;> rfl) | (simp [*, errW_none, errW_some] <;> rfl), by repeat (first | (with_reducible first | exact HB.out | apply below_alloc | apply pw_below_drewN | apply below_drew1 | refine below_set ?_ GE241.out) | exact HB.out)⟩
      · replace c9 := Bool.eq_false_iff.mpr c9
        subst c9
        have H1 : ((slabvaultlaw13_wide.f k l0_3).bind fun t243 => (some t243)) = some r := by rw [if_neg (show ¬ (false = true) by decide)] at H; exact H
        clear H
        have H := H1
        clear H1
        replace H := Option.bind_eq_some_iff.mp H
        obtain ⟨t243, A120, H⟩ := H
        replace H : (some t243) = some r := H
        have A12 := Aside0.mk A120
        clear A120
        obtain rfl := Option.some.inj H
        go_enter Try.func15, Try.ntmps15
        go_wp2_with (first | ((with_reducible refine gate_dst (N := 1) rfl ?_); (try (refine gate_guard (by rfl) ?_; dsimp only)); refine box_event ?hg (N := 1) ?hd (cs := #[.slice A0_0 l0_0.length c0_0, .int .i64 a0_1, .slice A0_2 l0_2.length c0_2, .slice A0_3 l0_3.length c0_3, .slice A0_4 l0_4.length c0_4, .slice A0_5 l0_5.length c0_5]) (t := 33) ?hr ?_; (case hd => rfl); (case hg => rfl); (case hr => first | (go_simp; done) | (go_simp; rfl)); intro gb241 hg w13 hbox hb; have n0_ := Aside0.mk (below_step (by repeat (first | (with_reducible first | exact HB.out | apply below_alloc | apply pw_below_drewN | apply below_drew1) | exact HB.out)) hb); have n1_ := Aside0.mk (hbox); have n2_ := Aside0.mk ((by rw [hg]; exact (below_size (by repeat (first | (with_reducible first | exact HB.out | apply below_alloc | apply pw_below_drewN | apply below_drew1) | exact HB.out))) : w.heap.size ≤ gb241)); have n3_ := Aside0.mk ((by rw [hg]; exact (below_size (by repeat (first | (with_reducible first | exact HB.out | apply below_alloc | apply pw_below_drewN | apply below_drew1) | exact HB.out))) : w.heap.size ≤ gb241)); clear HB; have HB := n0_; have BK241 := n1_; have GW241 := n2_; have GE241 := n3_; clear n0_ n1_ n2_ n3_; clear hb hbox hg; have hcz14_0 : w13.cell? ⟨gb241, 0, none⟩ = some (.slice A0_0 l0_0.length c0_0) := (blk_cell BK241.out 0).trans rfl; have hcz14_1 : w13.cell? ⟨gb241, 1, none⟩ = some (.int .i64 a0_1) := (blk_cell BK241.out 1).trans rfl; have hcz14_2 : w13.cell? ⟨gb241, 2, none⟩ = some (.slice A0_2 l0_2.length c0_2) := (blk_cell BK241.out 2).trans rfl; have hcz14_3 : w13.cell? ⟨gb241, 3, none⟩ = some (.slice A0_3 l0_3.length c0_3) := (blk_cell BK241.out 3).trans rfl; have hcz14_4 : w13.cell? ⟨gb241, 4, none⟩ = some (.slice A0_4 l0_4.length c0_4) := (blk_cell BK241.out 4).trans rfl; have hcz14_5 : w13.cell? ⟨gb241, 5, none⟩ = some (.slice A0_5 l0_5.length c0_5) := (blk_cell BK241.out 5).trans rfl; have hfz14_0 := blk_frozen BK241.out 0; have hfz14_1 := blk_frozen BK241.out 1; have hfz14_2 := blk_frozen BK241.out 2; have hfz14_3 := blk_frozen BK241.out 3; have hfz14_4 := blk_frozen BK241.out 4; have hfz14_5 := blk_frozen BK241.out 5) | (go_at_call 23; (with_reducible refine (slabvaultlaw13_wide.calls k _ _ l0_2 false _ ?side1 ?side2 A8.out).mono ?_); (case side1 => repeat (first | exact (Kd.C_below HR0_2.out HB.out) | (with_reducible refine Kd.C_alloc ?_ _) | (with_reducible refine Kd.C_drewN ?_ _) | (with_reducible refine Kd.C_drew ?_))); (case side2 => exact HC0_2.out); rintro e w' ⟨rfl, ⟨nd, rfl⟩⟩) | (go_at_call 23; (with_reducible refine (slabvaultlaw13_wide.calls k _ _ l0_3 t243 _ ?side1 ?side2 A12.out).mono ?_); (case side1 => repeat (first | exact (Kd.C_below HR0_3.out (by repeat (first | (with_reducible first | exact HB.out | apply below_alloc | apply pw_below_drewN | apply below_drew1 | refine below_set ?_ GE241.out) | exact HB.out))) | (with_reducible refine Kd.C_alloc ?_ _) | (with_reducible refine Kd.C_drewN ?_ _) | (with_reducible refine Kd.C_drew ?_))); (case side2 => exact HC0_3.out); rintro e w' ⟨rfl, ⟨nd, rfl⟩⟩))
        go_ret
        exact ⟨by first | rfl | (simp [errW_none, errW_some] <;> rfl) | (simp [*, errW_none, errW_some] <;> rfl), by repeat (first | (with_reducible first | exact HB.out | apply below_alloc | apply pw_below_drewN | apply below_drew1 | refine below_set ?_ GE241.out) | exact HB.out)⟩
end Go.Proofs.Ytjbjofmcmjojlab.Wk
end
section
namespace Go.Proofs.Ytjbjofmcmjojlab.Wk
open Go.RowKit Go.Proofs.YtjbjofmcmjojlabW.PrintWords Go.Proofs.YtjbjofmcmjojlabW.PrintLast Go.Proofs.YtjbjofmcmjojlabW.PrintMore
attribute [local go_sem] max2_int min2_int max_two min_two max_three min_three max_four min_four
set_option linter.unusedVariables false
set_option linter.unusedSimpArgs false
def slices_Clone_byte_byte.f (l0 : List Int) : Option (List Int) := if l0.length ≤ 140737488355328 then some l0 else none
end Go.Proofs.Ytjbjofmcmjojlab.Wk
end
section
namespace Go.Proofs.Ytjbjofmcmjojlab.Wk
open Go.RowKit Go.Proofs.YtjbjofmcmjojlabW.PrintWords Go.Proofs.YtjbjofmcmjojlabW.PrintLast Go.Proofs.YtjbjofmcmjojlabW.PrintMore
attribute [local go_sem] max2_int min2_int max_two min_two max_three min_three max_four min_four
set_option linter.unusedVariables false
set_option linter.unusedSimpArgs false
section
open Go.Proofs.YtjbjofmcmjojlabQ
structure grid_Paste1Mem (BH : Nat) (AH : Option Addr) (cH : Nat) (H : List Int) (BZ : Nat) (z : Int) (BD : Nat) (AD : Option Addr) (cD : Nat) (D : List Int) (BS : Nat) (AS : Option Addr) (cS : Nat) (S : List Int) (BO : Nat) (g n cO : Nat) (BX : Nat) (aX : Addr) (cX : Nat) (X : List Int) (W : World) : Prop where
  bH : W.cell? ⟨BH, 0, none⟩ = some (.slice AH H.length cH)
  bZ : W.cell? ⟨BZ, 0, none⟩ = some (.int .i64 z)
  bD : W.cell? ⟨BD, 0, none⟩ = some (.slice AD D.length cD)
  bS : W.cell? ⟨BS, 0, none⟩ = some (.slice AS S.length cS)
  bO : W.cell? ⟨BO, 0, none⟩ = some (.slice (some ⟨g, 0, none⟩) n cO)
  bX : W.cell? ⟨BX, 0, none⟩ = some (.slice (some aX) X.length cX)
  rH : (Kd.int .i64).C W AH H.length H
  lH : H.length ≤ cH
  rD : (Kd.int .i64).C W AD D.length D
  lD : D.length ≤ cD
  rS : (Kd.int .i64).C W AS S.length S
  lS : S.length ≤ cS
  lO : n ≤ cO
  rX : (Kd.int .u8).C W (some aX) X.length X
  lX : X.length ≤ cX
end
end Go.Proofs.Ytjbjofmcmjojlab.Wk
end
section
namespace Go.Proofs.Ytjbjofmcmjojlab.Wk
open Go.RowKit Go.Proofs.YtjbjofmcmjojlabW.PrintWords Go.Proofs.YtjbjofmcmjojlabW.PrintLast Go.Proofs.YtjbjofmcmjojlabW.PrintMore
attribute [local go_sem] max2_int min2_int max_two min_two max_three min_three max_four min_four
set_option linter.unusedVariables false
set_option linter.unusedSimpArgs false
section
open Go.Proofs.YtjbjofmcmjojlabQ
def grid_pasteStep (k : Nat) (D S : List Int) (z : Int) (H X : List Int) (n : Nat) (O : List Int) (q : List Int × Int) : Option (List Int) :=
  (grid_place.f k H q.1).bind fun p1 => (grid_moved.f k q.1 S).bind fun mv => (grid_place.f k D mv).bind fun p2 =>
  if 0 ≤ p1 * z ∧ 0 ≤ p2 * z ∧ 1 ≤ q.2 * z ∧ p1 * z + q.2 * z ≤ (X.length : Int) ∧ p2 * z + q.2 * z ≤ (n : Int) ∧ p1 * z + p2 * z + q.2 * z + (n : Int) ≤ 1000000 then some (laid O (p2 * z).toNat ((X.drop (p1 * z).toNat).take (q.2 * z).toNat)) else none
def grid_pasteFold (k : Nat) (D S : List Int) (z : Int) (H X : List Int) (n : Nat) (O : List Int) (l : List (List Int × Int)) : Option (List Int) := l.foldlM (grid_pasteStep k D S z H X n) O
def grid_Paste.f (k : Nat) (Y : List Int) (z : Int) (D H c X : List Int) : Option (List Int × Int) :=
  (grid_fit.f D H).bind fun e1 => if e1 = 0 then ((grid_sized.f k z [D, H]).bind fun e2 => if e2 = 0 then ((space_Elements.f D).bind fun n => (space_Elements.f H).bind fun m =>
    (grid_right.f c D.length).bind fun b => if (Y.length : Int) = wrap64 (n.1 * z) ∧ (X.length : Int) = wrap64 (m.1 * z) ∧ b = true then
      ((slices_Clone_byte_byte.f Y).bind fun O => (grid_Clip.f k D H c).bind fun p => if p.2.1.length ≤ 4 ∧ ∀ x ∈ p.2.1, 0 ≤ x ∧ x ≤ 1048576 then (grid_pasteFold k D p.1 z H X O.length O (rowsOf p.2.1)).bind fun r => some (r, 0) else none)
    else some ([], 2)) else some ([], e2)) else some ([], e1)
theorem buf_of_R {e : Nat} {W : World} {base : Nat} {ok : Nat → Prop} {v : Value} {xs : List Int} (h : Kd.R (Kd.int .u8) e W base ok v xs) (h0 : 0 < xs.length) : ∃ g c, v = .slice (some ⟨g, 0, none⟩) xs.length c ∧ base ≤ g ∧ xs.length ≤ c ∧ Buf e W g xs.length xs := by
  obtain ⟨h1, h2 | ⟨g, c, cur, e1, h3, h4, h5, h6, h7, h8⟩⟩ := Kd.own_of_R h
  · omega
  · refine ⟨g, c, e1, h3, h5, ⟨Nat.le_refl _, by unfold maxLen at h6; omega, cur, h4, by omega, ?_⟩⟩
    rw [Nat.mul_one] at h8
    rw [h8]
    simp [encs, bytesV]
end
end Go.Proofs.Ytjbjofmcmjojlab.Wk
end
section
namespace Go.Proofs.Ytjbjofmcmjojlab.Wk
open Go.RowKit Go.Proofs.YtjbjofmcmjojlabW.PrintWords Go.Proofs.YtjbjofmcmjojlabW.PrintLast Go.Proofs.YtjbjofmcmjojlabW.PrintMore
attribute [local go_sem] max2_int min2_int max_two min_two max_three min_three max_four min_four
set_option linter.unusedVariables false
set_option linter.unusedSimpArgs false
section
open Go.Proofs.YtjbjofmcmjojlabQ
structure CaseAt (W : World) (b : Nat) (A0 : Option Addr) (c0 : Nat) (X : List Int) (z : Int) (A2 : Option Addr) (c2 : Nat) (D : List Int) (A3 : Option Addr) (c3 : Nat) (H : List Int) (A4 : Option Addr) (c4 : Nat) (co : List Int) (A5 : Option Addr) (c5 : Nat) (L : List Int) : Prop where
  blk : W.heap[b]? = some (.cells #[.slice A0 X.length c0, .int .i64 z, .slice A2 D.length c2, .slice A3 H.length c3, .slice A4 co.length c4, .slice A5 L.length c5] 33 (0, 0))
  r0 : Kd.C (Kd.int .u8) W A0 X.length X
  l0 : X.length ≤ c0
  r2 : Kd.C (Kd.int .i64) W A2 D.length D
  l2 : D.length ≤ c2
  r3 : Kd.C (Kd.int .i64) W A3 H.length H
  l3 : H.length ≤ c3
  r4 : Kd.C (Kd.int .i64) W A4 co.length co
  l4 : co.length ≤ c4
  r5 : Kd.C (Kd.int .u8) W A5 L.length L
  l5 : L.length ≤ c5
theorem caseAt_below {W W' : World} {b : Nat} {A0 : Option Addr} {c0 : Nat} {X : List Int} {z : Int} {A2 : Option Addr} {c2 : Nat} {D : List Int} {A3 : Option Addr} {c3 : Nat} {H : List Int} {A4 : Option Addr} {c4 : Nat} {co : List Int} {A5 : Option Addr} {c5 : Nat} {L : List Int}
    (h : CaseAt W b A0 c0 X z A2 c2 D A3 c3 H A4 c4 co A5 c5 L) (hb : Below W.heap.size W W') : CaseAt W' b A0 c0 X z A2 c2 D A3 c3 H A4 c4 co A5 c5 L :=
  ⟨(hb.block b (Array.getElem?_eq_some_iff.1 h.blk).1).trans h.blk, Kd.C_below h.r0 hb, h.l0, Kd.C_below h.r2 hb, h.l2, Kd.C_below h.r3 hb, h.l3, Kd.C_below h.r4 hb, h.l4, Kd.C_below h.r5 hb, h.l5⟩
theorem caseAt_cells {W : World} {b : Nat} {A0 : Option Addr} {c0 : Nat} {X : List Int} {z : Int} {A2 : Option Addr} {c2 : Nat} {D : List Int} {A3 : Option Addr} {c3 : Nat} {H : List Int} {A4 : Option Addr} {c4 : Nat} {co : List Int} {A5 : Option Addr} {c5 : Nat} {L : List Int}
    (h : CaseAt W b A0 c0 X z A2 c2 D A3 c3 H A4 c4 co A5 c5 L) : W.cell? ⟨b, 0, none⟩ = some (.slice A0 X.length c0) ∧ W.cell? ⟨b, 1, none⟩ = some (.int .i64 z) ∧ W.cell? ⟨b, 2, none⟩ = some (.slice A2 D.length c2) ∧ W.cell? ⟨b, 3, none⟩ = some (.slice A3 H.length c3) ∧ W.cell? ⟨b, 4, none⟩ = some (.slice A4 co.length c4) ∧ W.cell? ⟨b, 5, none⟩ = some (.slice A5 L.length c5) :=
  ⟨(blk_cell h.blk 0).trans rfl, (blk_cell h.blk 1).trans rfl, (blk_cell h.blk 2).trans rfl, (blk_cell h.blk 3).trans rfl, (blk_cell h.blk 4).trans rfl, (blk_cell h.blk 5).trans rfl⟩
theorem lent_calls (A0 : Option Addr) (c0 : Nat) (l0 : List Int) (w : World) (hr0 : Kd.C (Kd.int .u8) w A0 l0.length l0) (hc0 : l0.length ≤ c0) (hm : l0.length ≤ 10000) :
    Calls Try.prog 16 #[.slice A0 l0.length c0] w fun e w' => ∃ g c, e = .returned (.slice (some ⟨g, 0, none⟩) l0.length c) ∧ l0.length + 1 ≤ c ∧ w.heap.size ≤ g ∧ Buf 5 w' g (l0.length + 1) (l0 ++ [90]) ∧ Below w.heap.size w w' := by
  have HR0 := Aside0.mk hr0
  have HC0 := Aside0.mk hc0
  have HM := Aside0.mk hm
  have HB := Aside0.mk (Below.refl w.heap.size w)
  clear hr0 hc0 hm
  have HU := Aside0.mk Try.underlying31
  go_enter Try.func16, Try.ntmps16
  go_wp2_with (first
    | ((with_reducible refine gate_dst (N := 3) rfl ?_); refine Kd.R_lit (Kd.int .u8) _ 5 ?hg (N := 3) ?hd (xs := ([] : List Int)) (inner := []) (ok := fun _ => True) (okp := fun _ => True) ?hr ?hp (fun _ hk => hk) trivial (Below.refl _ _) (Nat.le_refl _) (by simp) ?_; (case hd => rfl); (case hg => rfl); (case hr => first | (go_simp; done) | (go_simp; rfl)); (case hp => exact (Reps.none _ _)); intro v3 w3 ho3 hb3 hg_ hnew_; clear hg_ hnew_; have HO3 := Aside0.mk ho3; have HB3 := Aside0.mk hb3; clear hb3 ho3)
    | ((with_reducible refine gate_builtin (b := .append) (xs := #[.tmp 3, .tmp 4]) rfl ?_); at_builtin; refine Kd.R_append_rows (Kd.int .u8) (w0 := w) w.heap.size rfl (.tmp 3) (.tmp 4) 31 5 (.int .u8 0) 1 rfl Try.underlying31 (by kernel_rfl) rfl (by decide) (by omega) v3 [] l0 _ _ _ (fun _ => True) (fun _ => False) rfl rfl ?aO ?aR (fun _ _ h => h) (fun _ h => h.elim) ?aF ?aB ?aS ?aL ?_; (case aR => exact Kd.C_below HR0.out HB3.out); (case aB => exact HB3.out); (case aF => exact (fun _ _ => trivial)); (case aO => exact HO3.out); (case aS => exact HB3.out.size); (case aL => have := HM.out; simp; omega); intro v5 w5 ho hb hg hat; have HB5 := Aside0.mk hb; have HO5 := Aside0.mk ho; clear ho hb hg hat)
    | ((with_reducible refine gate_builtin (b := .append) (xs := #[.tmp 5, .tmp 6]) rfl ?_); at_builtin; refine Kd.R_append (Kd.int .u8) (w0 := w) w.heap.size rfl (.tmp 5) (.tmp 6) 31 5 (.int .u8 0) 1 rfl Try.underlying31 (by kernel_rfl) rfl (by decide) (by omega) v5 ([] ++ l0) 90 [.int .u8 90] (fun _ => True) (fun _ => False) rfl rfl ?aP (fun _ hk => hk.elim) ?aF ?aO ?aB ?aS ?aL ?_; (case aP => exact rfl); (case aB => exact HB5.out); (case aF => exact (fun _ _ => trivial)); (case aO => exact HO5.out); (case aS => exact HB5.out.size); (case aL => have := HM.out; simp; omega); intro v7 w7 ho hb hg hat; have HB7 := Aside0.mk hb; have ho' := (show Kd.R (Kd.int .u8) 5 w7 w.heap.size (fun _ => True) v7 (l0 ++ [90]) from ho); obtain ⟨g, c, hv7, hgb, hlc, hbuf⟩ := buf_of_R ho' (by simp); clear ho'; rw [List.length_append, List.length_singleton] at hv7 hlc hbuf; subst hv7; have HGB := Aside0.mk hgb; have HLC := Aside0.mk hlc; have HBF := Aside0.mk hbuf; have k1 : ((l0.length : Int) ≤ (c : Int)) = True := eq_true (by omega); have k2 : (0 ≤ (l0.length : Int)) = True := eq_true (by omega); have k3 : decide ((l0.length : Int) ≤ (c : Int)) = true := decide_eq_true (by omega); clear ho hb hg hat hgb hlc hbuf))
  go_ret
  exact ⟨g, c, rfl, HLC.out, HGB.out, HBF.out, HB7.out⟩
end
end Go.Proofs.Ytjbjofmcmjojlab.Wk
end
section
namespace Go.Proofs.Ytjbjofmcmjojlab.Wk
open Go.RowKit Go.Proofs.YtjbjofmcmjojlabW.PrintWords Go.Proofs.YtjbjofmcmjojlabW.PrintLast Go.Proofs.YtjbjofmcmjojlabW.PrintMore
attribute [local go_sem] max2_int min2_int max_two min_two max_three min_three max_four min_four
set_option linter.unusedVariables false
set_option linter.unusedSimpArgs false
section
open Go.Proofs.YtjbjofmcmjojlabQ
theorem strOf_snoc (l : List Int) : strOfNums (l ++ [90]) = strOfNums l ++ (⟨#[90]⟩ : ByteArray) := by
  apply ByteArray.ext
  simp [strOfNums, ByteArray.data_append]
theorem cut_cap {P : Program} (t e : TypeId) (kh : IntKind) {i : TypeInfo} (ht : P.underlying t = some (.slice e)) (hi : P.info? e = some i) (A : Option Addr) (n c : Nat) (j : Int) (h0 : 0 ≤ j) (hm : j ≤ c) :
    ∀ W : World, (Instr.slice t (.slice A n c) none (some (.int kh j)) none).run P W = .ok (.slice A j.toNat c) W := by
  intro W
  have hel : P.elem t = e := by simp [Program.elem, ht]
  have hu : P.underlying t = some (.slice (P.elem t)) := by rw [hel]; exact ht
  have ha : (A.map fun x => x.add 0) = A := by cases A <;> simp [Addr.add]
  rw [run_slice_h W t A n c hu kh j h0 (by omega), hel]
  simp [sizeOf, typeInfo, hi, sliced, Result.andThen, ha]
theorem kept_calls (g c : Nat) (A1 : Option Addr) (c1 : Nat) (l : List Int) (w : World) (hc : l.length + 1 ≤ c) (hb : Buf 5 w g (l.length + 1) (l ++ [90])) (hr1 : Kd.C (Kd.int .u8) w A1 l.length l) (hc1 : l.length ≤ c1) (hm : l.length ≤ 10000) :
    Calls Try.prog 19 #[.slice (some ⟨g, 0, none⟩) l.length c, .slice A1 l.length c1] w fun e w' => e = .returned (.bool true) ∧ Drawn0 w w' := by
  obtain ⟨m, hme⟩ : ∃ m : Nat, l.length + 1 = m := ⟨_, rfl⟩
  have hw : wrap64 ((l.length : Int) + 1) = (m : Int) := by unfold wrap64; omega
  have hw2 : (IntKind.i64.wrap ((l.length : Int) + 1)) = (m : Int) := (i64_w _).trans hw
  have hsz : (l ++ [(90 : Int)]).length = m := by simp; omega
  rw [hme] at hc hb
  obtain ⟨i07, hi07, _, hsz7, _⟩ := info_parts (show (Try.prog.info? 5).map (fun i => (i.zero, i.size, i.bytes)) = some (some (.int .u8 0), 1, 1) by kernel_rfl)
  have hcut := cut_cap (P := Try.prog) 31 5 .i64 Try.underlying31 hi07 (some ⟨g, 0, none⟩) l.length c (m : Int) (by omega) (by omega)
  rw [Int.toNat_natCast] at hcut
  have hcv8 := Kd.C_string (P := Try.prog) (A := some ⟨g, 0, none⟩) (c := c) Try.underlying31 Try.underlying5 Try.underlying9 ((hb.step (W' := w.drew) rfl).C hsz)
  rw [hsz, strOf_snoc] at hcv8
  have hcv9 := Kd.C_string (P := Try.prog) (A := A1) (c := c1) Try.underlying31 Try.underlying5 Try.underlying9 (Kd.C_drew hr1)
  have c6 : (strOfNums l).size + 1 ≤ 9223372036854775807 := by
    have : (strOfNums l).size = l.length := by simp [strOfNums, ByteArray.size]
    omega
  have c6b0 := eq_true c6
  have c6b1 : decide ((strOfNums l).size + 1 ≤ 9223372036854775807) = true := decide_eq_true c6
  have c6b2 : (9223372036854775807 < (strOfNums l).size + 1) = False := eq_false (Nat.not_lt.2 c6)
  clear hi07 hsz7 c6
  go_enter Try.func19, Try.ntmps19
  go_wp2
  refine start_ (n := 11) (S := fun W' => (convert 31 9 (.slice (some ⟨g, 0, none⟩) m c)).run Try.prog W' = .ok (.string (strOfNums l ++ (⟨#[90]⟩ : ByteArray))) W' ∧ (convert 31 9 (.slice A1 l.length c1)).run Try.prog W' = .ok (.string (strOfNums l)) W') (ds := []) #[false, false, false, false, false, false, false, false, false, false, false] (by kernel_rfl) rfl rfl ⟨hcv8, hcv9⟩ (fun hHeld => ?_)
  clear hcv8 hcv9
  refine pure_ (i := 0) (N := some 5) (v := ?_) (a' := ?_) #[true, false, false, false, false, false, false, false, false, false, false] rfl rfl (by kernel_rfl) (fun _ _ _ h => h) (Or.inl ⟨by rfl, ?_⟩) ?_ ?_
  rotate_left
  · intro w'
    go_simp
    with_reducible rfl
  rotate_left
  · simp only [Act.put, List.setIfInBounds_toArray, List.set_cons_zero, List.set_cons_succ, i64_w, i32_w]
    rfl
  refine pure_ (i := 1) (N := some 6) (v := ?_) (a' := ?_) #[true, true, false, false, false, false, false, false, false, false, false] rfl rfl (by kernel_rfl) (fun _ _ _ h => h) (Or.inl ⟨by rfl, ?_⟩) ?_ ?_
  rotate_left
  · intro w'
    go_simp
    with_reducible rfl
  rotate_left
  · simp only [Act.put, List.setIfInBounds_toArray, List.set_cons_zero, List.set_cons_succ, i64_w, i32_w]
    rfl
  refine pure_ (i := 2) (N := some 7) (v := ?_) (a' := ?_) #[true, true, true, false, false, false, false, false, false, false, false] rfl rfl (by kernel_rfl) (fun _ _ _ h => h) (Or.inl ⟨by rfl, ?_⟩) ?_ ?_
  rotate_left
  · intro w'
    go_simp
    with_reducible rfl
  rotate_left
  · simp only [Act.put, List.setIfInBounds_toArray, List.set_cons_zero, List.set_cons_succ, i64_w, i32_w]
    rfl
  refine pure_ (i := 3) (N := some 8) (v := ?_) (a' := ?_) #[true, true, true, true, false, false, false, false, false, false, false] rfl rfl (by kernel_rfl) (fun _ _ _ h => h) (Or.inl ⟨by rfl, ?_⟩) ?_ ?_
  rotate_left
  · intro w'
    go_simp
    with_reducible rfl
  rotate_left
  · simp only [Act.put, List.setIfInBounds_toArray, List.set_cons_zero, List.set_cons_succ, i64_w, i32_w]
    rfl
  refine pure_ (i := 4) (N := some 9) (v := ?_) (a' := ?_) #[true, true, true, true, true, false, false, false, false, false, false] rfl rfl (by kernel_rfl) (fun _ _ _ h => h) (Or.inl ⟨by rfl, ?_⟩) ?_ ?_
  rotate_left
  · intro w'
    go_simp
    with_reducible rfl
  rotate_left
  · simp only [Act.put, List.setIfInBounds_toArray, List.set_cons_zero, List.set_cons_succ, i64_w, i32_w]
    rfl
  refine take_ (i := 5) (N := some 10) (v := ?_) (a' := ?_) #[true, true, true, true, true, true, false, false, false, false, false] rfl rfl (by kernel_rfl) (fun _ _ _ h => h) (Or.inl ⟨by rfl, ?_⟩) hHeld ?_ ?_
  rotate_left
  · rintro w' ⟨hS8_, hS9_⟩
    go_simp
    with_reducible rfl
  rotate_left
  · simp only [Act.put, List.setIfInBounds_toArray, List.set_cons_zero, List.set_cons_succ, i64_w, i32_w]
    rfl
  refine pure_ (i := 6) (N := some 11) (v := ?_) (a' := ?_) #[true, true, true, true, true, true, true, false, false, false, false] rfl rfl (by kernel_rfl) (fun _ _ _ h => h) (Or.inl ⟨by rfl, ?_⟩) ?_ ?_
  rotate_left
  · intro w'
    go_simp
    with_reducible rfl
  rotate_left
  · simp only [Act.put, List.setIfInBounds_toArray, List.set_cons_zero, List.set_cons_succ, i64_w, i32_w]
    rfl
  refine take_ (i := 7) (N := some 12) (v := ?_) (a' := ?_) #[true, true, true, true, true, true, true, true, false, false, false] rfl rfl (by kernel_rfl) (fun _ _ _ h => h) (Or.inl ⟨by rfl, ?_⟩) hHeld ?_ ?_
  rotate_left
  · rintro w' ⟨hS8_, hS9_⟩
    go_simp
    with_reducible rfl
  rotate_left
  · simp only [Act.put, List.setIfInBounds_toArray, List.set_cons_zero, List.set_cons_succ, i64_w, i32_w]
    rfl
  refine pure_ (i := 8) (N := some 13) (v := ?_) (a' := ?_) #[true, true, true, true, true, true, true, true, true, false, false] rfl rfl (by kernel_rfl) (fun _ _ _ h => h) (Or.inl ⟨by rfl, ?_⟩) ?_ ?_
  rotate_left
  · intro w'
    go_simp
    with_reducible rfl
  rotate_left
  · simp only [Act.put, List.setIfInBounds_toArray, List.set_cons_zero, List.set_cons_succ, i64_w, i32_w]
    rfl
  refine pure_ (i := 9) (N := some 14) (v := ?_) (a' := ?_) #[true, true, true, true, true, true, true, true, true, true, false] rfl rfl (by kernel_rfl) (fun _ _ _ h => h) (Or.inl ⟨by rfl, ?_⟩) ?_ ?_
  rotate_left
  · intro w'
    go_simp
    with_reducible rfl
  rotate_left
  · simp only [Act.put, List.setIfInBounds_toArray, List.set_cons_zero, List.set_cons_succ, i64_w, i32_w]
    rfl
  refine pure_ (i := 10) (N := some 4) (v := ?_) (a' := ?_) #[true, true, true, true, true, true, true, true, true, true, true] rfl rfl (by kernel_rfl) (fun _ _ _ h => h) (Or.inl ⟨by rfl, ?_⟩) ?_ ?_
  rotate_left
  · intro w'
    go_simp
    with_reducible rfl
  rotate_left
  · simp only [Act.put, List.setIfInBounds_toArray, List.set_cons_zero, List.set_cons_succ, i64_w, i32_w]
    rfl
  refine done_ (by kernel_rfl) ?_
  go_wp2
  go_ret
  exact ⟨by first | rfl | simp, (Drawn0.refl w).step 1⟩
end
end Go.Proofs.Ytjbjofmcmjojlab.Wk
end
section
namespace Go.Proofs.Ytjbjofmcmjojlab.Wk
open Go.RowKit Go.Proofs.YtjbjofmcmjojlabW.PrintWords Go.Proofs.YtjbjofmcmjojlabW.PrintLast Go.Proofs.YtjbjofmcmjojlabW.PrintMore
attribute [local go_sem] max2_int min2_int max_two min_two max_three min_three max_four min_four
set_option linter.unusedVariables false
set_option linter.unusedSimpArgs false
section
open Go.Proofs.YtjbjofmcmjojlabQ
theorem buf_set {e g n : Nat} {W : World} {xs : List Int} (h : Buf e W g n xs) (j : Nat) (y : Int) : Buf e (W.setCell ⟨g, j, none⟩ (.int .u8 y)) g n (xs.set j y) ∧ W.grownBy (W.setCell ⟨g, j, none⟩ (.int .u8 y)) (some g) := by
  obtain ⟨h1, h2, cur, h3, h4, h5⟩ := h
  refine ⟨⟨by simpa using h1, h2, cur.setIfInBounds j (.int .u8 y), blk_set h3 j _, by simpa using h4, ?_⟩, ⟨rfl, rfl, rfl, by simp [World.setCell], fun k _ hk => Below.heap_setCell W ⟨g, j, none⟩ _ k (fun e => hk (by rw [e]))⟩⟩
  rw [Array.toList_setIfInBounds, List.take_set, List.length_set, h5]
  simp [bytesV, List.map_set]
theorem grown_trans {W W1 W2 : World} {r : Option Nat} (h : W.grownBy W1 r) (h' : W1.grownBy W2 r) : W.grownBy W2 r :=
  ⟨h'.os.trans h.os, h'.tape.trans h.tape, h'.output.trans h.output, Nat.le_trans h.size h'.size, fun k hk hn => (h'.block k (Nat.lt_of_lt_of_le hk h.size) hn).trans (h.block k hk hn)⟩
def OwnAt (e : Nat) (W : World) (row : Option Nat) (v : Value) (r : List Int) : Prop := (row = none ∧ r = [] ∧ ∃ A c, v = .slice A 0 c) ∨ ∃ g c, row = some g ∧ v = .slice (some ⟨g, 0, none⟩) r.length c ∧ r.length ≤ c ∧ Buf e W g r.length r
theorem ownB_at {e : Nat} {W : World} {base : Nat} {v : Value} {r : List Int} (h : OwnB e W base v r) : ∃ row, OwnAt e W row v r ∧ ∀ k, row = some k → base ≤ k ∧ k < W.heap.size := by
  rcases h with ⟨h1, h2⟩ | ⟨g, c, h1, h2, h3, h4⟩
  · exact ⟨none, .inl ⟨rfl, h1, h2⟩, fun k hk => by cases hk⟩
  · exact ⟨some g, .inr ⟨g, c, rfl, h1, h2, h4⟩, fun k hk => by cases hk; exact ⟨h3, h4.lt⟩⟩
theorem ownAt_step {e : Nat} {W W' : World} {row : Option Nat} {v : Value} {r : List Int} (h : OwnAt e W row v r) (hm : ∀ k, row = some k → W'.heap[k]? = W.heap[k]?) : OwnAt e W' row v r := by
  rcases h with h | ⟨g, c, h0, h1, h2, h3⟩
  · exact .inl h
  · exact .inr ⟨g, c, h0, h1, h2, h3.step (hm g h0)⟩
theorem ownAt_slice {e : Nat} {W : World} {row : Option Nat} {v : Value} {r : List Int} (h : OwnAt e W row v r) : ∃ A c, v = .slice A r.length c ∧ r.length ≤ c ∧ Kd.C (Kd.int .u8) W A r.length r := by
  rcases h with ⟨-, rfl, A, c, rfl⟩ | ⟨g, c, -, h1, h2, h3⟩
  · exact ⟨A, c, rfl, Nat.zero_le _, ⟨rfl, by simp, by simp⟩⟩
  · exact ⟨_, c, h1, h2, h3.C rfl⟩
set_option maxHeartbeats 4000000 in
set_option maxRecDepth 10000 in
theorem spoil_some (g c : Nat) (l : List Int) (w : World) (hc : l.length ≤ c) (hb : Buf 5 w g l.length l) : Calls Try.prog 20 #[.slice (some ⟨g, 0, none⟩) l.length c] w fun e w' => e = .returned (.tuple #[]) ∧ w.grownBy w' (some g) := by
  have HB := Aside0.mk hb
  have HM := Aside0.mk hb.max
  clear hb
  obtain ⟨n, hn⟩ : ∃ n, l.length = n := ⟨_, rfl⟩
  rw [hn] at HB HM hc ⊢
  go_enter Try.func20, Try.ntmps20
  go_wp2
  go_loopg [2] n (fun kq v2 W => ∃ (i : Nat) (x : List Int), v2 = .int .i64 (i : Int) ∧ Aside0 (i ≤ n ∧ n - i ≤ kq) ∧ Aside0 (Buf 5 W g n x ∧ x.length = n) ∧ Aside0 (w.grownBy W (some g)))
  case atStart => exact ⟨0, l, rfl, ⟨Nat.zero_le _, by omega⟩, ⟨HB.out, hn⟩, ⟨⟨rfl, rfl, rfl, Nat.le_refl _, fun _ _ _ => rfl⟩⟩⟩
  case round =>
    obtain ⟨i, x, rfl, HI, HX, HG⟩ := hrel
    by_cases hi : i < n
    case neg =>
      have n1 : (i < n) = False := eq_false hi
      have d1 : decide ((i : Int) < (n : Int)) = false := by simp; omega
      clear hi
      go_wp2
      first | go_end0 | ((try simp only [Exit.inBlock, Exit.then]); refine bodyPost_ret (results_none rfl _ _ _) rfl ?_)
      exact ⟨rfl, HG.out⟩
    have n1 : (i < n) = True := eq_true hi
    have d1 : decide ((i : Int) < (n : Int)) = true := by simp; omega
    have p1 : (0 ≤ (i : Int)) = True := eq_true (by omega)
    have hx := HX.out.1.cell i (by rw [HX.out.2]; exact hi)
    have hset := buf_set HX.out.1 i ((x.getD i 0 + 1) % 256)
    simp only [List.getD_eq_getElem?_getD] at hset
    obtain ⟨cur, hblk, hcs⟩ : ∃ cur, wr.heap[g]? = some (.cells cur 5 (0, 0)) ∧ n ≤ cur.size := by
      obtain ⟨_, _, cur, h3, h4, _⟩ := HX.out.1
      exact ⟨cur, h3, h4⟩
    have hfz := blk_frozen hblk i
    have HI2 := Aside0.mk hi
    clear hi hcs
    go_wp2
    go_roundg (gk - 1)
    case measure => have := HI.out; have := HI2.out; omega
    case rel => exact ⟨i + 1, x.set i ((x[i]?.getD 0 + 1) % 256), by have := HI2.out; have := HM.out; rw [show wrap64 ((i : Int) + 1) = ((i + 1 : Nat) : Int) by unfold wrap64; omega], ⟨by have := HI2.out; omega, by have := HI.out; have := HI2.out; omega⟩, ⟨hset.1, by rw [List.length_set]; exact HX.out.2⟩, ⟨grown_trans HG.out hset.2⟩⟩
set_option maxHeartbeats 4000000 in
set_option maxRecDepth 10000 in
theorem spoil_none (A : Option Addr) (c : Nat) (w : World) : Calls Try.prog 20 #[.slice A 0 c] w fun e w' => e = .returned (.tuple #[]) ∧ w.grownBy w' none := by
  go_enter Try.func20, Try.ntmps20
  go_wp2
  go_loopg [2] 1 (fun kq v2 W => v2 = .int .i64 0 ∧ Aside0 (w.grownBy W none))
  case atStart => exact ⟨rfl, ⟨⟨rfl, rfl, rfl, Nat.le_refl _, fun _ _ _ => rfl⟩⟩⟩
  case round =>
    obtain ⟨rfl, HG⟩ := hrel
    go_wp2
    first | go_end0 | ((try simp only [Exit.inBlock, Exit.then]); refine bodyPost_ret (results_none rfl _ _ _) rfl ?_)
    exact ⟨rfl, HG.out⟩
theorem spoil_calls (row : Option Nat) (v : Value) (r : List Int) (w : World) (h : OwnAt 5 w row v r) : Calls Try.prog 20 #[v] w fun e w' => e = .returned (.tuple #[]) ∧ w.grownBy w' row := by
  rcases h with ⟨rfl, -, A, c, rfl⟩ | ⟨g, c, rfl, rfl, h2, h3⟩
  · exact spoil_none A c w
  · exact spoil_some g c r w h2 h3
theorem buf_init {e g : Nat} {W : World} {l : List Int} {y : Int} (h : Buf e W g (l.length + 1) (l ++ [y])) : Buf e W g l.length l := by
  obtain ⟨h1, h2, cur, h3, h4, h5⟩ := h
  refine ⟨Nat.le_refl _, by omega, cur, h3, by omega, ?_⟩
  have h6 := congrArg (List.take l.length) h5
  rw [List.take_take] at h6
  simp only [List.length_append, List.length_singleton, bytesV, List.map_append] at h6
  rw [show min l.length (l.length + 1) = l.length by omega] at h6
  rw [h6]
  simp [bytesV]
theorem R_keep {e : Nat} {W W' : World} {base : Nat} {v : Value} {xs : List Int} (h : Kd.R (Kd.int .u8) e W base (fun _ => True) v xs) (hk : ∀ k, base ≤ k → k < W.heap.size → W'.heap[k]? = W.heap[k]?) : Kd.R (Kd.int .u8) e W' base (fun _ => True) v xs :=
  Kd.R_mono (Kd.R_step (Kd.R_bound h) (fun k hk' hl => hk k hk'.2.1 hl)) (fun _ _ => trivial)
theorem own_lt {e : Nat} {W : World} {row : Option Nat} {v : Value} {r : List Int} (h : OwnAt e W row v r) {k : Nat} (hk : row = some k) : k < W.heap.size := by
  rcases h with ⟨h0, -⟩ | ⟨g, c, h0, -, -, h3⟩
  · rw [h0] at hk; cases hk
  · rw [h0] at hk; cases hk; exact h3.lt
end
end Go.Proofs.Ytjbjofmcmjojlab.Wk
end
section
namespace Go.Proofs.Ytjbjofmcmjojlab.Wk
open Go.RowKit Go.Proofs.YtjbjofmcmjojlabW.PrintWords Go.Proofs.YtjbjofmcmjojlabW.PrintLast Go.Proofs.YtjbjofmcmjojlabW.PrintMore
attribute [local go_sem] max2_int min2_int max_two min_two max_three min_three max_four min_four
set_option linter.unusedVariables false
set_option linter.unusedSimpArgs false
mutual
def slabvaultref13_tuples.l0 : Nat → List Int → List (List Int) → Int → Option ((List (List Int)))
  | 0, _, _, _ => none
  | k + 1, x0, x3, x4 => if x4 < (x0.length : Int) then (slabvaultref13_tuples.l1 k x0 x3 x4 ([] : List (List Int)) 0) else (some x3)
def slabvaultref13_tuples.l1 : Nat → List Int → List (List Int) → Int → List (List Int) → Int → Option ((List (List Int)))
  | 0, _, _, _, _, _ => none
  | k + 1, x0, x3, x4, x5, x6 => if x6 < (x3.length : Int) then (slabvaultref13_tuples.l2 k x0 x3 x4 x5 x6 0) else (slabvaultref13_tuples.l0 k x0 x5 (wrap64 (x4 + 1)))
def slabvaultref13_tuples.l2 : Nat → List Int → List (List Int) → Int → List (List Int) → Int → Int → Option ((List (List Int)))
  | 0, _, _, _, _, _, _ => none
  | k + 1, x0, x3, x4, x5, x6, x7 => if 0 ≤ x4 then (if x4 < (x0.length : Int) then (if x7 < (rd x0 x4) then ((some (([] : List Int) : List Int)).bind fun y257 => (if 0 ≤ x6 then (if x6 < (x3.length : Int) then (if y257.length + (rd_L1 x3 x6).length < 17592186044416 then ((some (y257 ++ (rd_L1 x3 x6) : List Int)).bind fun y261 => (if y261.length < 17592186044416 then (if x5.length < 5864062014805 then (slabvaultref13_tuples.l2 k x0 x3 x4 (x5 ++ [(y261 ++ [x7])]) x6 (wrap64 (x7 + 1))) else (none)) else (none))) else (none)) else (none)) else (none))) else (slabvaultref13_tuples.l1 k x0 x3 x4 x5 (wrap64 (x6 + 1)))) else (none)) else (none)
end
def slabvaultref13_tuples.f (k : Nat) (l0 : List Int) : Option ((List (List Int))) := slabvaultref13_tuples.l0 k l0 (([(([] : List Int))] : List (List Int))) 0
set_option maxHeartbeats 8000000 in
set_option maxRecDepth 100000 in
theorem slabvaultref13_tuples.calls (k : Nat) (A0 : Option Addr) (c0 : Nat) (l0 : List Int) (r : List (List Int)) (w : World) (hr0 : Kd.C (Kd.int .i64) w A0 l0.length l0) (hc0 : l0.length ≤ c0) (h : slabvaultref13_tuples.f k l0 = some r) :
    Calls Try.prog 45 #[.slice A0 l0.length c0] w fun e w' => ∃ v0_ : Value, e = .returned (v0_) ∧ Kd.N (Kd.slice 3 (Kd.int .i64)) 22 w' w.heap.size (fun k_ => (w.heap.size ≤ k_)) v0_ r ∧ Below w.heap.size w w' := by
  have HR0 := Aside0.mk hr0
  have HC0 := Aside0.mk hc0
  clear hr0 hc0
  have HB := Aside0.mk (Below.refl w.heap.size w)
  have H : (slabvaultref13_tuples.l0 k l0 (([(([] : List Int))] : List (List Int))) 0) = some r := h
  clear h
  obtain ⟨y250, hy250⟩ : ∃ y_ : List Int, y_ = (([] : List Int)) := ⟨_, rfl⟩
  replace H : (slabvaultref13_tuples.l0 k l0 (([y250] : List (List Int))) 0) = some r := by first | (rw [hy250]; with_reducible exact H) | (have H2_ := (Option.bind_some _ _).symm.trans H; rw [hy250]; with_reducible exact H2_) | (have H2_ := (Option.bind_some _ _).symm.trans H; with_reducible exact H2_) | with_reducible exact H | (rw [hy250]; exact H) | exact H
  have Ny250 := Aside0.mk hy250
  clear hy250
  obtain ⟨y253, hy253⟩ : ∃ y_ : List (List Int), y_ = (([y250] : List (List Int))) := ⟨_, rfl⟩
  replace H : (slabvaultref13_tuples.l0 k l0 y253 0) = some r := by first | (rw [hy253]; with_reducible exact H) | (have H2_ := (Option.bind_some _ _).symm.trans H; rw [hy253]; with_reducible exact H2_) | (have H2_ := (Option.bind_some _ _).symm.trans H; with_reducible exact H2_) | with_reducible exact H | (rw [hy253]; exact H) | exact H
  have Ny253 := Aside0.mk hy253
  clear hy253
  have H' := Aside0.mk H
  clear H
  go_enter Try.func45, Try.ntmps45
  go_wp2_with (first | ((with_reducible refine gate_dst (N := 8) rfl ?_); refine Kd.R_lit (Kd.int .i64) _ 3 ?hg (N := 8) ?hd (xs := ([] : List Int)) (inner := []) (ok := fun _ => True) (okp := fun _ => True) ?hr ?hp (fun _ hk => hk) trivial (Below.refl _ _) (Nat.le_refl _) (by simp) ?_; (case hd => rfl); (case hg => rfl); (case hr => first | (go_simp; done) | (go_simp; rfl)); (case hp => exact (Reps.none _ _)); intro v251 w2 ho3 hb hg_ hnew_; clear hg_ hnew_; (first | rw [← Ny250.out] at ho3 | (simp only [Int.reduceToNat] at ho3; rw [← Ny250.out] at ho3)); have n0_ := Aside0.mk (Kd.R_lower (Kd.R_newM (M := fun k_ => (w.heap.size ≤ k_)) ho3 (below_size (by repeat (first | (with_reducible first | exact HB.out | apply below_alloc | apply pw_below_drewN | apply below_drew1) | exact HB.out))) (fun k_ h_ => h_)) (below_size (by repeat (first | (with_reducible first | exact HB.out | apply below_alloc | apply pw_below_drewN | apply below_drew1) | exact HB.out)))); have n1_ := Aside0.mk (below_step (by repeat (first | (with_reducible first | exact HB.out | apply below_alloc | apply pw_below_drewN | apply below_drew1) | exact HB.out)) hb); clear HB; have HO252 := n0_; have HB := n1_; clear n0_ n1_; clear hb ho3; obtain ⟨Ao4, co4, eo4⟩ := Kd.R_slice HO252.out; subst eo4) | ((with_reducible refine gate_dst (N := 9) rfl ?_); refine Kd.N_lit (Kd.slice 3 (Kd.int .i64)) _ 22 ?hg (N' := 9) ?hd (xs := ([y250] : List (List Int))) (inner := [.slice Ao4 y250.length co4]) (ok := (fun k_ => (w.heap.size ≤ k_))) (okp := (fun k_ => (w.heap.size ≤ k_))) ?hr ?hp (fun _ hk => hk) ((show ∀ k_, w2.heap.size ≤ k_ → (fun k_ => (w.heap.size ≤ k_)) k_ from fun k_ hk => (Nat.le_trans (below_size (by repeat (first | (with_reducible first | exact HB.out | apply below_alloc | apply pw_below_drewN | apply below_drew1) | exact HB.out))) hk)) _ (Nat.le_refl _)) (Below.refl _ _) (Nat.le_refl _) (by simp) ?_; (case hd => rfl); (case hg => rfl); (case hr => first | (go_simp; done) | (go_simp; rfl)); (case hp => exact (Reps.one (show Kd.FK (Kd.slice 3 (Kd.int .i64)) _ _ y250 [.slice Ao4 y250.length co4] from (Kd.FK_slice_mk (Kd.R_reads' (Kd.R_mono (ok' := (fun k_ => (w.heap.size ≤ k_))) (HO252.out) (fun k_ hk => hk.1))).2.1 (Kd.R_F (Kd.R_mono (ok' := (fun k_ => (w.heap.size ≤ k_))) (HO252.out) (fun k_ hk => hk.1))))) (Reps.none _ _))); intro v254 w5 ho6 hb hg_ hnew_; clear hg_ hnew_; (first | rw [← Ny253.out] at ho6 | (simp only [Int.reduceToNat] at ho6; rw [← Ny253.out] at ho6)); have n0_ := Aside0.mk (Kd.N_lower ho6 (below_size (by repeat (first | (with_reducible first | exact HB.out | apply below_alloc | apply pw_below_drewN | apply below_drew1) | exact HB.out)))); have n1_ := Aside0.mk (below_step (by repeat (first | (with_reducible first | exact HB.out | apply below_alloc | apply pw_below_drewN | apply below_drew1) | exact HB.out)) hb); clear HB; clear HO252; have HO255 := n0_; have HB := n1_; clear n0_ n1_; clear hb ho6))
  go_loopg [3, 4] k (fun kq v3 v4 w' => ∃ (x3_1 : List (List Int)) (x4_1 : Int), v4 = .int .i64 x4_1 ∧ Aside0 (slabvaultref13_tuples.l0 kq l0 x3_1 x4_1 = some r) ∧ Aside0 (kq ≤ k) ∧ Aside0 (Kd.N (Kd.slice 3 (Kd.int .i64)) 22 w' w.heap.size (fun k_ => (w.heap.size ≤ k_)) v3 x3_1) ∧ Aside0 (Below w.heap.size w w'))
  case atStart => exact ⟨(y253), (0), (by first | rfl | (simp; done) | (simp [*]; done)), H', ⟨Nat.le_refl _⟩, ⟨by (with_reducible repeat (first | apply Kd.N_alloc | apply Kd.N_drewN | apply Kd.N_drew)); exact HO255.out⟩, ⟨by repeat (first | (with_reducible first | exact HB.out | apply below_alloc | apply pw_below_drewN | apply below_drew1) | exact HB.out)⟩⟩
  case round =>
    clear H'
    try clear p2
    try clear c4
    obtain ⟨x3_1, x4_1, rfl, HA, HK1, HO_3, HB⟩ := hrel
    cases gk with
    | zero => exact absurd HA.out (by simp [slabvaultref13_tuples.l0])
    | succ k1 =>
      have H := HA.out
      clear HA
      simp only [slabvaultref13_tuples.l0] at H
      by_cases c7 : x4_1 < (l0.length : Int)
      · rw [if_pos c7] at H
        have c7b0 : decide (x4_1 < (l0.length : Int)) = true := decide_eq_true c7
        clear c7
        have H' := Aside0.mk H
        clear H
        go_wp2
        go_loopg [5, 6] k1 (fun kq v5 v6 w' => ∃ (x5_2 : List (List Int)) (x6_2 : Int), v6 = .int .i64 x6_2 ∧ Aside0 (slabvaultref13_tuples.l1 kq l0 x3_1 x4_1 x5_2 x6_2 = some r) ∧ Aside0 (kq ≤ k1) ∧ Aside0 (Kd.N (Kd.slice 3 (Kd.int .i64)) 22 w' w.heap.size (fun k_ => (w.heap.size ≤ k_) ∧ some k_ ≠ (v5 : Value).ownBlock) u3 x3_1) ∧ Aside0 (Kd.N (Kd.slice 3 (Kd.int .i64)) 22 w' w.heap.size (fun k_ => (w.heap.size ≤ k_) ∧ some k_ ≠ (u3 : Value).ownBlock) v5 x5_2) ∧ Aside0 (Below w.heap.size w w'))
        case atStart => exact ⟨(([] : List (List Int))), (0), (by first | rfl | (simp; done) | (simp [*]; done)), H', ⟨Nat.le_refl _⟩, ⟨by (with_reducible repeat (first | apply Kd.N_alloc | apply Kd.N_drewN | apply Kd.N_drew)); exact Kd.N_mono HO_3.out (fun _ hk => ⟨hk, (by simp [Value.ownBlock])⟩)⟩, ⟨by first | exact Kd.S_nil _ _ _ _ _ | exact Kd.N_nil _ _ _ _ _ | exact Kd.V_nil _ _ _ _ _ | exact Kd.Q_nil _ _ _ _ _ | exact Kd.R_nil _ _ _ _ _⟩, ⟨by repeat (first | (with_reducible first | exact HB.out | apply below_alloc | apply pw_below_drewN | apply below_drew1) | exact HB.out)⟩⟩
        case round =>
          clear H'
          try clear p2
          try clear c4
          try clear c7
          try clear c7b0
          try clear p2
          obtain ⟨x5_2, x6_2, rfl, HA, HK2, HO_3, HO_5, HB⟩ := hrel
          cases gk with
          | zero => exact absurd HA.out (by simp [slabvaultref13_tuples.l1])
          | succ k2 =>
            have H := HA.out
            clear HA
            simp only [slabvaultref13_tuples.l1] at H
            by_cases c8 : x6_2 < (x3_1.length : Int)
            · rw [if_pos c8] at H
              have c8b0 : decide (x6_2 < (x3_1.length : Int)) = true := decide_eq_true c8
              clear c8
              have H' := Aside0.mk H
              clear H
              obtain ⟨Ao9, co9, eo9⟩ := Kd.N_slice HO_3.out
              subst eo9
              go_wp2
              go_loopg [5, 7] k2 (fun kq v5 v7 w' => ∃ (x5_3 : List (List Int)) (x7_3 : Int), v7 = .int .i64 x7_3 ∧ Aside0 (slabvaultref13_tuples.l2 kq l0 x3_1 x4_1 x5_3 x6_2 x7_3 = some r) ∧ Aside0 (kq ≤ k2) ∧ Aside0 (Kd.N (Kd.slice 3 (Kd.int .i64)) 22 w' w.heap.size (fun k_ => (w.heap.size ≤ k_) ∧ some k_ ≠ (v5 : Value).ownBlock) (.slice Ao9 x3_1.length co9) x3_1) ∧ Aside0 (Kd.N (Kd.slice 3 (Kd.int .i64)) 22 w' w.heap.size (fun k_ => (w.heap.size ≤ k_) ∧ some k_ ≠ ((.slice Ao9 x3_1.length co9) : Value).ownBlock) v5 x5_3) ∧ Aside0 (Below w.heap.size w w'))
              case atStart => exact ⟨(x5_2), (0), (by first | rfl | (simp; done) | (simp [*]; done)), H', ⟨Nat.le_refl _⟩, ⟨by (with_reducible repeat (first | apply Kd.N_alloc | apply Kd.N_drewN | apply Kd.N_drew)); exact HO_3.out⟩, ⟨by (with_reducible repeat (first | apply Kd.N_alloc | apply Kd.N_drewN | apply Kd.N_drew)); exact HO_5.out⟩, ⟨by repeat (first | (with_reducible first | exact HB.out | apply below_alloc | apply pw_below_drewN | apply below_drew1) | exact HB.out)⟩⟩
              case round =>
                clear H'
                try clear p2
                try clear c4
                try clear c7
                try clear c7b0
                try clear c8
                try clear c8b0
                try clear p2
                obtain ⟨x5_3, x7_3, rfl, HA, HK3, HO_3, HO_5, HB⟩ := hrel
                cases gk with
                | zero => exact absurd HA.out (by simp [slabvaultref13_tuples.l2])
                | succ k3 =>
                  have H := HA.out
                  clear HA
                  simp only [slabvaultref13_tuples.l2] at H
                  by_cases c10 : 0 ≤ x4_1
                  · rw [if_pos c10] at H
                    have c10b0 : decide (0 ≤ x4_1) = true := decide_eq_true c10
                    clear c10
                    by_cases c11 : x4_1 < (l0.length : Int)
                    · rw [if_pos c11] at H
                      have c11b0 : decide (x4_1 < (l0.length : Int)) = true := decide_eq_true c11
                      clear c11
                      by_cases c12 : x7_3 < (rd l0 x4_1)
                      · rw [if_pos c12] at H
                        have c12b0 : decide (x7_3 < (rd l0 x4_1)) = true := decide_eq_true c12
                        clear c12
                        obtain ⟨y257, hy257⟩ : ∃ y_ : List Int, y_ = (([] : List Int)) := ⟨_, rfl⟩
                        replace H : (if 0 ≤ x6_2 then (if x6_2 < (x3_1.length : Int) then (if y257.length + (rd_L1 x3_1 x6_2).length < 17592186044416 then ((some (y257 ++ (rd_L1 x3_1 x6_2) : List Int)).bind fun y261 => (if y261.length < 17592186044416 then (if x5_3.length < 5864062014805 then (slabvaultref13_tuples.l2 k3 l0 x3_1 x4_1 (x5_3 ++ [(y261 ++ [x7_3])]) x6_2 (wrap64 (x7_3 + 1))) else (none)) else (none))) else (none)) else (none)) else (none)) = some r := by first | (rw [hy257]; with_reducible exact H) | (have H2_ := (Option.bind_some _ _).symm.trans H; rw [hy257]; with_reducible exact H2_) | (have H2_ := (Option.bind_some _ _).symm.trans H; with_reducible exact H2_) | with_reducible exact H | (rw [hy257]; exact H) | exact H
                        have Ny257 := Aside0.mk hy257
                        clear hy257
                        by_cases c13 : 0 ≤ x6_2
                        · rw [if_pos c13] at H
                          have c13b0 : decide (0 ≤ x6_2) = true := decide_eq_true c13
                          clear c13
                          by_cases c14 : x6_2 < (x3_1.length : Int)
                          · rw [if_pos c14] at H
                            have c14b0 : decide (x6_2 < (x3_1.length : Int)) = true := decide_eq_true c14
                            clear c14
                            by_cases c15 : y257.length + (rd_L1 x3_1 x6_2).length < 17592186044416
                            · rw [if_pos c15] at H
                              have LMc15 := Aside0.mk c15
                              clear c15
                              obtain ⟨y261, hy261⟩ : ∃ y_ : List Int, y_ = (y257 ++ (rd_L1 x3_1 x6_2)) := ⟨_, rfl⟩
                              replace H : (if y261.length < 17592186044416 then (if x5_3.length < 5864062014805 then (slabvaultref13_tuples.l2 k3 l0 x3_1 x4_1 (x5_3 ++ [(y261 ++ [x7_3])]) x6_2 (wrap64 (x7_3 + 1))) else (none)) else (none)) = some r := by first | (rw [hy261]; with_reducible exact H) | (have H2_ := (Option.bind_some _ _).symm.trans H; rw [hy261]; with_reducible exact H2_) | (have H2_ := (Option.bind_some _ _).symm.trans H; with_reducible exact H2_) | with_reducible exact H | (rw [hy261]; exact H) | exact H
                              have Ny261 := Aside0.mk hy261
                              clear hy261
                              by_cases c16 : y261.length < 17592186044416
                              · rw [if_pos c16] at H
                                have LMc16 := Aside0.mk c16
                                clear c16
                                obtain ⟨y264, hy264⟩ : ∃ y_ : List Int, y_ = (y261 ++ [x7_3]) := ⟨_, rfl⟩
                                replace H : (if x5_3.length < 5864062014805 then (slabvaultref13_tuples.l2 k3 l0 x3_1 x4_1 (x5_3 ++ [y264]) x6_2 (wrap64 (x7_3 + 1))) else (none)) = some r := by first | (rw [hy264]; with_reducible exact H) | (have H2_ := (Option.bind_some _ _).symm.trans H; rw [hy264]; with_reducible exact H2_) | (have H2_ := (Option.bind_some _ _).symm.trans H; with_reducible exact H2_) | with_reducible exact H | (rw [hy264]; exact H) | exact H
                                have Ny264 := Aside0.mk hy264
                                clear hy264
                                by_cases c17 : x5_3.length < 5864062014805
                                · rw [if_pos c17] at H
                                  have LMc17 := Aside0.mk c17
                                  clear c17
                                  obtain ⟨y267, hy267⟩ : ∃ y_ : List (List Int), y_ = (x5_3 ++ [y264]) := ⟨_, rfl⟩
                                  replace H : (slabvaultref13_tuples.l2 k3 l0 x3_1 x4_1 y267 x6_2 (wrap64 (x7_3 + 1))) = some r := by first | (rw [hy267]; with_reducible exact H) | (have H2_ := (Option.bind_some _ _).symm.trans H; rw [hy267]; with_reducible exact H2_) | (have H2_ := (Option.bind_some _ _).symm.trans H; with_reducible exact H2_) | with_reducible exact H | (rw [hy267]; exact H) | exact H
                                  have Ny267 := Aside0.mk hy267
                                  clear hy267
                                  have H' := Aside0.mk H
                                  clear H
                                  have p256 : 0 ≤ (x4_1 : Int) := of_decide_eq_true (by first | (with_reducible assumption) | assumption)
                                  have q256 : x4_1 < (l0.length : Int) := of_decide_eq_true (by first | (with_reducible assumption) | assumption)
                                  obtain ⟨ad256, e256, hx256_0⟩ := Kd.at_int HR0.out x4_1 p256 q256
                                  cases e256
                                  replace hx256_0 := (HB.out.cell (World.block_lt_of_cell? w _ hx256_0)).trans hx256_0
                                  replace p256 := eq_true p256
                                  replace q256 := eq_true q256
                                  go_wp2_with (first | ((with_reducible refine gate_dst (N := 31) rfl ?_); refine Kd.R_lit (Kd.int .i64) _ 3 ?hg (N := 31) ?hd (xs := ([] : List Int)) (inner := []) (ok := fun _ => True) (okp := fun _ => True) ?hr ?hp (fun _ hk => hk) trivial (Below.refl _ _) (Nat.le_refl _) (by simp) ?_; (case hd => rfl); (case hg => rfl); (case hr => first | (go_simp; done) | (go_simp; rfl)); (case hp => exact (Reps.none _ _)); intro v258 w18 ho19 hb hg_ hnew_; clear hg_ hnew_; (first | rw [← Ny257.out] at ho19 | (simp only [Int.reduceToNat] at ho19; rw [← Ny257.out] at ho19)); have n0_ := Aside0.mk (Kd.N_elder' (by (with_reducible repeat (first | apply Kd.N_alloc | apply Kd.N_drewN | apply Kd.N_drew)); exact HO_3.out) (Kd.R_base ho19) hb); have n1_ := Aside0.mk (Kd.N_elder' (by (with_reducible repeat (first | apply Kd.N_alloc | apply Kd.N_drewN | apply Kd.N_drew)); exact HO_5.out) (Kd.R_base ho19) hb); have n2_ := Aside0.mk (Kd.R_lower (Kd.R_newM (M := fun k_ => (w.heap.size ≤ k_)) ho19 (below_size (by repeat (first | (with_reducible first | exact HB.out | apply below_alloc | apply pw_below_drewN | apply below_drew1) | exact HB.out))) (fun k_ h_ => h_)) (below_size (by repeat (first | (with_reducible first | exact HB.out | apply below_alloc | apply pw_below_drewN | apply below_drew1) | exact HB.out)))); have n3_ := Aside0.mk (below_step (by repeat (first | (with_reducible first | exact HB.out | apply below_alloc | apply pw_below_drewN | apply below_drew1) | exact HB.out)) hb); clear HO_3; clear HO_5; clear HB; have HO_3 := n0_; have HO_5 := n1_; have HO259 := n2_; have HB := n3_; clear n0_ n1_ n2_ n3_; clear hb ho19; have p260 : 0 ≤ (x6_2 : Int) := of_decide_eq_true (by first | (with_reducible assumption) | assumption); have q260 : x6_2 < (x3_1.length : Int) := of_decide_eq_true (by first | (with_reducible assumption) | assumption); obtain ⟨ad260, A260_0, c260_0, e260, hx260_0, hl260_0, hi260_0⟩ := at_L1 (Kd.N_reads' HO_3.out).2.2 x6_2 p260 q260; cases e260; obtain ⟨ce260, hce260, hMe260, hcc260⟩ := Kd.N_get HO_3.out [] x6_2 p260 (by first | exact q260 | exact of_decide_eq_true (by first | (with_reducible assumption) | assumption) | (have e_ := (Kd.N_reads' HO_3.out).1; omega)); obtain ⟨ua260_0, uc260_0, rfl, ul260_0, ge260_0⟩ := Kd.FK_slice_open hMe260; have hv260_0 := hcc260 0 _ rfl; rw [Nat.add_zero, show ((Kd.slice 3 (Kd.int .i64))).sz = 1 from rfl, Nat.mul_one] at hv260_0; replace hv260_0 := Option.some.inj (hv260_0.symm.trans hx260_0); injection hv260_0 with hva_ hvn_ hvc_; rw [hva_] at ge260_0; rw [hvc_] at ul260_0; have HL260_0 := Aside0.mk (show Kd.V (Kd.int .i64) 3 _ w.heap.size _ _ (rd_L1 x3_1 x6_2) from Kd.V_mk ul260_0 ge260_0); clear hva_ hvn_ hvc_ ge260_0 ul260_0; clear hcc260 hce260; have HR260_0 := Aside0.mk hi260_0; have HC260_0 := Aside0.mk hl260_0; clear hi260_0 hl260_0; replace p260 := eq_true p260; replace q260 := eq_true q260) | ((with_reducible refine gate_builtin (b := .append) (xs := #[.tmp 31, .tmp 35]) rfl ?_); at_builtin; refine Kd.R_append_rows (Kd.int .i64) (w0 := w) w.heap.size rfl (.tmp 31) (.tmp 35) 22 3 (.int .i64 0) 8 rfl Try.underlying22 info3 rfl (by decide) (by omega) v258 y257 (rd_L1 x3_1 x6_2) _ _ _ (fun k_ => (w.heap.size ≤ k_)) (fun _ => False) rfl rfl ?aO ?aR (fun _ _ h => h) (fun _ h => h.elim) ?aF ?aB ?aS ?aL ?_; (case aR => repeat (first | exact (by repeat (first | (with_reducible exact HR260_0.out) | (with_reducible refine Kd.C_alloc ?_ _) | (with_reducible refine Kd.C_drewN ?_ _) | (with_reducible refine Kd.C_drew ?_) | exact HR260_0.out)) | (with_reducible refine Kd.C_alloc ?_ _) | (with_reducible refine Kd.C_drewN ?_ _) | (with_reducible refine Kd.C_drew ?_))); (case aB => exact (by repeat (first | (with_reducible first | exact HB.out | apply below_alloc | apply pw_below_drewN | apply below_drew1) | exact HB.out))); (case aF => exact (fun k_ hk => (Nat.le_trans (below_size (by repeat (first | (with_reducible first | exact HB.out | apply below_alloc | apply pw_below_drewN | apply below_drew1) | exact HB.out))) hk))); (case aO => exact (by (with_reducible repeat (first | apply Kd.R_alloc | apply Kd.R_drewN | apply Kd.R_drew)); exact Kd.R_mono HO259.out (fun _ hk => hk.1))); (case aS => exact (below_size (by repeat (first | (with_reducible first | exact HB.out | apply below_alloc | apply pw_below_drewN | apply below_drew1) | exact HB.out)))); (case aL => have := LMc15.out; omega); intro v262 w20 ho hb hg hat; rw [← Ny261.out] at ho; have n0_ := Aside0.mk (Kd.N_afterv (ok := (fun k_ => (w.heap.size ≤ k_) ∧ some k_ ≠ (u5 : Value).ownBlock)) (by (with_reducible repeat (first | apply Kd.N_alloc | apply Kd.N_drewN | apply Kd.N_drew)); exact HO_3.out) hg hat); have n1_ := Aside0.mk (Kd.N_afterv (ok := (fun k_ => (w.heap.size ≤ k_) ∧ some k_ ≠ (.slice (some ad260) x3_1.length co9 : Value).ownBlock)) (by (with_reducible repeat (first | apply Kd.N_alloc | apply Kd.N_drewN | apply Kd.N_drew)); exact HO_5.out) hg hat); have n2_ := Aside0.mk (Kd.V_afterv (ok := (fun k_ => (w.heap.size ≤ k_) ∧ some k_ ≠ (.slice (some ad260) x3_1.length co9 : Value).ownBlock ∧ some k_ ≠ (u5 : Value).ownBlock)) (by (with_reducible repeat (first | apply Kd.V_alloc | apply Kd.V_drewN | apply Kd.V_drew)); exact Kd.V_mono HL260_0.out (fun _ hk => ⟨⟨hk.1.1.1, ⟨hk.2, hk.1.1.2⟩⟩, hk.1.2⟩)) hg hat); have n3_ := Aside0.mk (hb); have n4_ := Aside0.mk (ho); clear HO_3; clear HO_5; clear HL260_0; clear HB; clear HO259; have HO_3 := n0_; have HO_5 := n1_; have HL260_0 := n2_; have HB := n3_; have HO263 := n4_; clear n0_ n1_ n2_ n3_ n4_; clear ho hb hg hat) | ((with_reducible refine gate_builtin (b := .append) (xs := #[.tmp 36, .tmp 38]) rfl ?_); at_builtin; refine Kd.R_append (Kd.int .i64) (w0 := w) w.heap.size rfl (.tmp 36) (.tmp 38) 22 3 (.int .i64 0) 8 rfl Try.underlying22 info3 rfl (by decide) (by omega) v262 y261 x7_3 [.int .i64 x7_3] (fun k_ => (w.heap.size ≤ k_)) (fun _ => False) rfl rfl ?aP (fun _ hk => hk.elim) ?aF ?aO ?aB ?aS ?aL ?_; (case aP => exact rfl); (case aB => exact (by repeat (first | (with_reducible first | exact HB.out | apply below_alloc | apply pw_below_drewN | apply below_drew1) | exact HB.out))); (case aF => exact (fun k_ hk => (Nat.le_trans (below_size (by repeat (first | (with_reducible first | exact HB.out | apply below_alloc | apply pw_below_drewN | apply below_drew1) | exact HB.out))) hk))); (case aO => exact (by (with_reducible repeat (first | apply Kd.R_alloc | apply Kd.R_drewN | apply Kd.R_drew)); exact HO263.out)); (case aS => exact (below_size (by repeat (first | (with_reducible first | exact HB.out | apply below_alloc | apply pw_below_drewN | apply below_drew1) | exact HB.out)))); (case aL => have := LMc16.out; omega); intro v265 w21 ho hb hg hat; rw [← Ny264.out] at ho; have n0_ := Aside0.mk (Kd.N_afterv (ok := (fun k_ => (w.heap.size ≤ k_) ∧ some k_ ≠ (u5 : Value).ownBlock)) (by (with_reducible repeat (first | apply Kd.N_alloc | apply Kd.N_drewN | apply Kd.N_drew)); exact HO_3.out) hg hat); have n1_ := Aside0.mk (Kd.N_afterv (ok := (fun k_ => (w.heap.size ≤ k_) ∧ some k_ ≠ (.slice (some ad260) x3_1.length co9 : Value).ownBlock)) (by (with_reducible repeat (first | apply Kd.N_alloc | apply Kd.N_drewN | apply Kd.N_drew)); exact HO_5.out) hg hat); have n2_ := Aside0.mk (Kd.V_afterv (ok := (fun k_ => (w.heap.size ≤ k_) ∧ some k_ ≠ (.slice (some ad260) x3_1.length co9 : Value).ownBlock ∧ some k_ ≠ (u5 : Value).ownBlock)) (by (with_reducible repeat (first | apply Kd.V_alloc | apply Kd.V_drewN | apply Kd.V_drew)); exact HL260_0.out) hg hat); have n3_ := Aside0.mk (hb); have n4_ := Aside0.mk (ho); clear HO_3; clear HO_5; clear HL260_0; clear HB; clear HO263; have HO_3 := n0_; have HO_5 := n1_; have HL260_0 := n2_; have HB := n3_; have HO266 := n4_; clear n0_ n1_ n2_ n3_ n4_; clear ho hb hg hat; obtain ⟨Ao23, co23, eo23⟩ := Kd.R_slice HO266.out; subst eo23) | ((with_reducible refine gate_builtin (b := .append) (xs := #[.tmp 30, .tmp 40]) rfl ?_); at_builtin; refine Kd.N_append (Kd.slice 3 (Kd.int .i64)) (w0 := w) w.heap.size rfl (.tmp 30) (.tmp 40) 66 22 (.slice none 0 0) 24 rfl Try.underlying66 info22 rfl (by decide) (by omega) u5 x5_3 y264 [.slice Ao23 y264.length co23] (fun k_ => (w.heap.size ≤ k_) ∧ some k_ ≠ (.slice (some ad260) x3_1.length co9 : Value).ownBlock) (fun k_ => ((fun k_ => (w.heap.size ≤ k_) ∧ some k_ ≠ (.slice (some ad260) x3_1.length co9 : Value).ownBlock)) k_ ∧ some k_ ≠ (u5 : Value).ownBlock) rfl rfl ?aP (fun _ hk => hk) ?aF ?aO ?aB ?aS ?aL ?_; (case aP => exact (Kd.FK_slice_mk (Kd.R_reads' (Kd.R_mono (ok' := (fun k_ => ((fun k_ => (w.heap.size ≤ k_) ∧ some k_ ≠ (.slice (some ad260) x3_1.length co9 : Value).ownBlock)) k_ ∧ some k_ ≠ (u5 : Value).ownBlock)) (Kd.R_apart' (Kd.R_apart' (HO266.out) (Kd.N_typed HO_3.out) (by decide)) (Kd.N_typed HO_5.out) (by decide)) (fun k_ hk => ⟨⟨hk.1.1, hk.1.2⟩, hk.2⟩))).2.1 (Kd.R_F (Kd.R_mono (ok' := (fun k_ => ((fun k_ => (w.heap.size ≤ k_) ∧ some k_ ≠ (.slice (some ad260) x3_1.length co9 : Value).ownBlock)) k_ ∧ some k_ ≠ (u5 : Value).ownBlock)) (Kd.R_apart' (Kd.R_apart' (HO266.out) (Kd.N_typed HO_3.out) (by decide)) (Kd.N_typed HO_5.out) (by decide)) (fun k_ hk => ⟨⟨hk.1.1, hk.1.2⟩, hk.2⟩))))); (case aB => exact (by repeat (first | (with_reducible first | exact HB.out | apply below_alloc | apply pw_below_drewN | apply below_drew1) | exact HB.out))); (case aF => exact (fun k_ hk => ⟨(Nat.le_trans (below_size (by repeat (first | (with_reducible first | exact HB.out | apply below_alloc | apply pw_below_drewN | apply below_drew1) | exact HB.out))) hk), Kd.fresh' (Kd.N_lt (by (with_reducible repeat (first | apply Kd.N_alloc | apply Kd.N_drewN | apply Kd.N_drew)); exact HO_3.out)) k_ hk⟩)); (case aO => exact (by (with_reducible repeat (first | apply Kd.N_alloc | apply Kd.N_drewN | apply Kd.N_drew)); exact Kd.N_mono HO_5.out (fun _ hk => ⟨hk.1.1, hk.1.2⟩))); (case aS => exact (below_size (by repeat (first | (with_reducible first | exact HB.out | apply below_alloc | apply pw_below_drewN | apply below_drew1) | exact HB.out)))); (case aL => have := LMc17.out; omega); intro v268 w22 ho hb hg hat; rw [← Ny267.out] at ho; have n0_ := Aside0.mk (Kd.N_afterv (ok := (fun k_ => (w.heap.size ≤ k_) ∧ some k_ ≠ (.slice Ao23 y264.length co23 : Value).ownBlock)) (by (with_reducible repeat (first | apply Kd.N_alloc | apply Kd.N_drewN | apply Kd.N_drew)); exact Kd.N_mono HO_3.out (fun _ hk => ⟨⟨hk.1.1, hk.2⟩, hk.1.2⟩)) hg hat); have n1_ := Aside0.mk (Kd.V_afterv (ok := (fun k_ => (w.heap.size ≤ k_) ∧ some k_ ≠ (.slice (some ad260) x3_1.length co9 : Value).ownBlock ∧ some k_ ≠ (.slice Ao23 y264.length co23 : Value).ownBlock)) (by (with_reducible repeat (first | apply Kd.V_alloc | apply Kd.V_drewN | apply Kd.V_drew)); exact Kd.V_mono HL260_0.out (fun _ hk => ⟨⟨hk.1.1, ⟨hk.1.2.1, hk.2⟩⟩, hk.1.2.2⟩)) hg hat); have n2_ := Aside0.mk (hb); have n3_ := Aside0.mk (ho); clear HO_3; clear HL260_0; clear HB; clear HO_5; clear HO266; have HO_3 := n0_; have HL260_0 := n1_; have HB := n2_; have HO269 := n3_; clear n0_ n1_ n2_ n3_; clear ho hb hg hat))
                                  go_roundg k3
                                  case measure => have := HK1.out; have := HK2.out; have := HK3.out; omega
                                  case rel => exact ⟨(y267), (wrap64 (x7_3 + 1)), (by first | rfl | (simp; done) | (simp [*]; done)), H', ⟨by have := HK1.out; have := HK2.out; have := HK3.out; omega⟩, ⟨by (with_reducible repeat (first | apply Kd.N_alloc | apply Kd.N_drewN | apply Kd.N_drew)); exact Kd.N_mono HO_3.out (fun _ hk => ⟨hk.1.1, hk.2⟩)⟩, ⟨by (with_reducible repeat (first | apply Kd.N_alloc | apply Kd.N_drewN | apply Kd.N_drew)); exact HO269.out⟩, ⟨by repeat (first | (with_reducible first | exact HB.out | apply below_alloc | apply pw_below_drewN | apply below_drew1) | exact HB.out)⟩⟩
                                · rw [if_neg c17] at H
                                  exact absurd H (by simp)
                              · rw [if_neg c16] at H
                                exact absurd H (by simp)
                            · rw [if_neg c15] at H
                              exact absurd H (by simp)
                          · rw [if_neg c14] at H
                            exact absurd H (by simp)
                        · rw [if_neg c13] at H
                          exact absurd H (by simp)
                      · rw [if_neg c12] at H
                        have c12b0 : decide (x7_3 < (rd l0 x4_1)) = false := decide_eq_false c12
                        clear c12
                        have H' := Aside0.mk H
                        clear H
                        have p256 : 0 ≤ (x4_1 : Int) := of_decide_eq_true (by first | (with_reducible assumption) | assumption)
                        have q256 : x4_1 < (l0.length : Int) := of_decide_eq_true (by first | (with_reducible assumption) | assumption)
                        obtain ⟨ad256, e256, hx256_0⟩ := Kd.at_int HR0.out x4_1 p256 q256
                        cases e256
                        replace hx256_0 := (HB.out.cell (World.block_lt_of_cell? w _ hx256_0)).trans hx256_0
                        replace p256 := eq_true p256
                        replace q256 := eq_true q256
                        go_wp2
                        go_roundg k3
                        case measure => have := HK1.out; have := HK2.out; have := HK3.out; omega
                        case rel => exact ⟨(x5_3), (wrap64 (x6_2 + 1)), (by first | rfl | (simp; done) | (simp [*]; done)), H', ⟨by have := HK1.out; have := HK2.out; have := HK3.out; omega⟩, ⟨by (with_reducible repeat (first | apply Kd.N_alloc | apply Kd.N_drewN | apply Kd.N_drew)); exact HO_3.out⟩, ⟨by (with_reducible repeat (first | apply Kd.N_alloc | apply Kd.N_drewN | apply Kd.N_drew)); exact HO_5.out⟩, ⟨by repeat (first | (with_reducible first | exact HB.out | apply below_alloc | apply pw_below_drewN | apply below_drew1) | exact HB.out)⟩⟩
                    · rw [if_neg c11] at H
                      exact absurd H (by simp)
                  · rw [if_neg c10] at H
                    exact absurd H (by simp)
            · rw [if_neg c8] at H
              have c8b0 : decide (x6_2 < (x3_1.length : Int)) = false := decide_eq_false c8
              clear c8
              have H' := Aside0.mk H
              clear H
              obtain ⟨Ao24, co24, eo24⟩ := Kd.N_slice HO_3.out
              subst eo24
              go_wp2
              go_roundg k2
              case measure => have := HK1.out; have := HK2.out; omega
              case rel => exact ⟨(x5_2), (wrap64 (x4_1 + 1)), (by first | rfl | (simp; done) | (simp [*]; done)), H', ⟨by have := HK1.out; have := HK2.out; omega⟩, ⟨by (with_reducible repeat (first | apply Kd.N_alloc | apply Kd.N_drewN | apply Kd.N_drew)); exact Kd.N_mono HO_5.out (fun _ hk => hk.1)⟩, ⟨by repeat (first | (with_reducible first | exact HB.out | apply below_alloc | apply pw_below_drewN | apply below_drew1) | exact HB.out)⟩⟩
      · rw [if_neg c7] at H
        have c7b0 : decide (x4_1 < (l0.length : Int)) = false := decide_eq_false c7
        clear c7
        obtain rfl := Option.some.inj H
        go_wp2
        go_ret
        exact ⟨_, by first | rfl | (simp [errW_none, errW_some] <;> rfl) | (simp [*, errW_none, errW_some] <;> rfl), by (with_reducible repeat (first | apply Kd.N_alloc | apply Kd.N_drewN | apply Kd.N_drew)); exact HO_3.out, by repeat (first | (with_reducible first | exact HB.out | apply below_alloc | apply pw_below_drewN | apply below_drew1) | exact HB.out)⟩
end Go.Proofs.Ytjbjofmcmjojlab.Wk
end
section
namespace Go.Proofs.Ytjbjofmcmjojlab.Wk
open Go.RowKit Go.Proofs.YtjbjofmcmjojlabW.PrintWords Go.Proofs.YtjbjofmcmjojlabW.PrintLast Go.Proofs.YtjbjofmcmjojlabW.PrintMore
attribute [local go_sem] max2_int min2_int max_two min_two max_three min_three max_four min_four
set_option linter.unusedVariables false
set_option linter.unusedSimpArgs false
def slabvaultref12_Place.l0 : Nat → List Int → List Int → Int → Int → Option (Int)
  | 0, _, _, _, _ => none
  | k + 1, x0, x1, x5, x6 => if x6 < (x0.length : Int) then (if 0 ≤ x6 then (if x6 < (x1.length : Int) then (slabvaultref12_Place.l0 k x0 x1 (wrap64 ((wrap64 (x5 * (rd x0 x6))) + (rd x1 x6))) (wrap64 (x6 + 1))) else (none)) else (none)) else (some x5)
def slabvaultref12_Place.f (k : Nat) (l0 : List Int) (l1 : List Int) : Option (Int) := slabvaultref12_Place.l0 k l0 l1 0 0
set_option maxHeartbeats 8000000 in
set_option maxRecDepth 100000 in
theorem slabvaultref12_Place.calls (k : Nat) (A0 : Option Addr) (c0 : Nat) (l0 : List Int) (A1 : Option Addr) (c1 : Nat) (l1 : List Int) (r : Int) (w : World) (hr0 : Kd.C (Kd.int .i64) w A0 l0.length l0) (hc0 : l0.length ≤ c0) (hr1 : Kd.C (Kd.int .i64) w A1 l1.length l1) (hc1 : l1.length ≤ c1) (h : slabvaultref12_Place.f k l0 l1 = some r) :
    Calls Try.prog 47 #[.slice A0 l0.length c0, .slice A1 l1.length c1] w fun e w' => e = .returned (.int .i64 r) ∧ Drawn0 w w' := by
  have HR0 := Aside0.mk hr0
  have HC0 := Aside0.mk hc0
  clear hr0 hc0
  have HR1 := Aside0.mk hr1
  have HC1 := Aside0.mk hc1
  clear hr1 hc1
  have H : (slabvaultref12_Place.l0 k l0 l1 0 0) = some r := h
  clear h
  have H' := Aside0.mk H
  clear H
  go_enter Try.func47, Try.ntmps47
  go_wp2
  repeat (go_quiet (fail); try go_wp2)
  go_loopg [5, 6] k (fun kq v5 v6 w' => ∃ (x5_1 : Int) (x6_1 : Int), v5 = .int .i64 x5_1 ∧ v6 = .int .i64 x6_1 ∧ Aside0 (slabvaultref12_Place.l0 kq l0 l1 x5_1 x6_1 = some r) ∧ Aside0 (kq ≤ k) ∧ Drawn0 w w')
  case atStart => exact ⟨(0), (0), (by first | rfl | (simp; done) | (simp [*]; done)), (by first | rfl | (simp; done) | (simp [*]; done)), H', ⟨Nat.le_refl _⟩, by repeat (first | exact Drawn0.refl _ | apply Drawn0.step)⟩
  case round =>
    clear H'
    try clear c1
    try clear p2
    obtain ⟨x5_1, x6_1, rfl, rfl, HA, HK1, ⟨m1, rfl⟩⟩ := hrel
    cases gk with
    | zero => exact absurd HA.out (by simp [slabvaultref12_Place.l0])
    | succ k1 =>
      have H := HA.out
      clear HA
      simp only [slabvaultref12_Place.l0] at H
      by_cases c3 : x6_1 < (l0.length : Int)
      · rw [if_pos c3] at H
        have c3b0 : decide (x6_1 < (l0.length : Int)) = true := decide_eq_true c3
        clear c3
        by_cases c4 : 0 ≤ x6_1
        · rw [if_pos c4] at H
          have c4b0 : decide (0 ≤ x6_1) = true := decide_eq_true c4
          clear c4
          by_cases c5 : x6_1 < (l1.length : Int)
          · rw [if_pos c5] at H
            have c5b0 : decide (x6_1 < (l1.length : Int)) = true := decide_eq_true c5
            clear c5
            have H' := Aside0.mk H
            clear H
            have p282 : 0 ≤ (x6_1 : Int) := of_decide_eq_true (by first | (with_reducible assumption) | assumption)
            have q282 : x6_1 < (l0.length : Int) := of_decide_eq_true (by first | (with_reducible assumption) | assumption)
            obtain ⟨ad282, e282, hx282_0⟩ := Kd.at_int HR0.out x6_1 p282 q282
            cases e282
            replace p282 := eq_true p282
            replace q282 := eq_true q282
            have p283 : 0 ≤ (x6_1 : Int) := of_decide_eq_true (by first | (with_reducible assumption) | assumption)
            have q283 : x6_1 < (l1.length : Int) := of_decide_eq_true (by first | (with_reducible assumption) | assumption)
            obtain ⟨ad283, e283, hx283_0⟩ := Kd.at_int HR1.out x6_1 p283 q283
            cases e283
            replace p283 := eq_true p283
            replace q283 := eq_true q283
            go_wp2
            repeat (go_quiet (fail); try go_wp2)
            go_roundg k1
            case measure => have := HK1.out; omega
            case rel => exact ⟨(wrap64 ((wrap64 (x5_1 * (rd l0 x6_1))) + (rd l1 x6_1))), (wrap64 (x6_1 + 1)), (by first | rfl | (simp; done) | (simp [*]; done)), (by first | rfl | (simp; done) | (simp [*]; done)), H', ⟨by have := HK1.out; omega⟩, by repeat (first | exact Drawn0.refl _ | apply Drawn0.step)⟩
          · rw [if_neg c5] at H
            exact absurd H (by simp)
        · rw [if_neg c4] at H
          exact absurd H (by simp)
      · rw [if_neg c3] at H
        have c3b0 : decide (x6_1 < (l0.length : Int)) = false := decide_eq_false c3
        clear c3
        obtain rfl := Option.some.inj H
        go_wp2
        repeat (go_quiet (fail); try go_wp2)
        go_ret
        exact ⟨by first | rfl | (simp; done) | (simp [*]; done), by repeat (first | exact Drawn0.refl _ | apply Drawn0.step)⟩
end Go.Proofs.Ytjbjofmcmjojlab.Wk
end
section
namespace Go.Proofs.Ytjbjofmcmjojlab.Wk
open Go.RowKit Go.Proofs.YtjbjofmcmjojlabW.PrintWords Go.Proofs.YtjbjofmcmjojlabW.PrintLast Go.Proofs.YtjbjofmcmjojlabW.PrintMore
attribute [local go_sem] max2_int min2_int max_two min_two max_three min_three max_four min_four
set_option linter.unusedVariables false
set_option linter.unusedSimpArgs false
mutual
def slabvaultref13_Resize.j0 : Nat → List Int → Int → List Int → List Int → List Int → Int → Int → Bool → Option (List Int × Int)
  | 0, _, _, _, _, _, _, _, _ => none
  | k + 1, x0, x1, x2, x3, x4, x12, x14, x50 => if x50 = true then (some (([] : List Int), 2)) else (if (wrap64 (x12 * x1)) > 65536 then (slabvaultref13_Resize.j1 k x0 x1 x2 x3 x4 x12 x14 true) else (slabvaultref13_Resize.j1 k x0 x1 x2 x3 x4 x12 x14 (decide ((wrap64 (x14 * x1)) > 65536))))
def slabvaultref13_Resize.j1 : Nat → List Int → Int → List Int → List Int → List Int → Int → Int → Bool → Option (List Int × Int)
  | 0, _, _, _, _, _, _, _, _ => none
  | k + 1, x0, x1, x2, x3, x4, x12, x14, x60 => if x60 = true then (some (([] : List Int), 3)) else (if (x0.length : Int) = (wrap64 (x12 * x1)) then (slabvaultref13_Resize.j2 k x0 x1 x2 x3 x4 x14 ((x4.length : Int) != x1)) else (slabvaultref13_Resize.j2 k x0 x1 x2 x3 x4 x14 true))
def slabvaultref13_Resize.j2 : Nat → List Int → Int → List Int → List Int → List Int → Int → Bool → Option (List Int × Int)
  | 0, _, _, _, _, _, _, _ => none
  | k + 1, x0, x1, x2, x3, x4, x14, x72 => if x72 = true then (some (([] : List Int), 2)) else (if x14 = 0 then (some (([] : List Int), 0)) else ((slabvaultref13_tuples.f k x3).bind fun t323 => (slabvaultref13_Resize.l0 k x0 x1 x2 x4 ([] : List Int) t323 0)))
def slabvaultref13_Resize.l0 : Nat → List Int → Int → List Int → List Int → List Int → List (List Int) → Int → Option (List Int × Int)
  | 0, _, _, _, _, _, _, _ => none
  | k + 1, x0, x1, x2, x4, x16, x17, x18 => if x18 < (x17.length : Int) then (slabvaultref13_Resize.l1 k x0 x1 x2 x4 x16 x17 x18 true 0) else (some (x16, 0))
def slabvaultref13_Resize.l1 : Nat → List Int → Int → List Int → List Int → List Int → List (List Int) → Int → Bool → Int → Option (List Int × Int)
  | 0, _, _, _, _, _, _, _, _, _ => none
  | k + 1, x0, x1, x2, x4, x16, x17, x18, x19, x20 => if x20 < (x2.length : Int) then (if x19 = true then (if 0 ≤ x18 then (if x18 < (x17.length : Int) then (if 0 ≤ x20 then (if x20 < ((rd_L1 x17 x18).length : Int) then (slabvaultref13_Resize.l1 k x0 x1 x2 x4 x16 x17 x18 (decide ((rd (rd_L1 x17 x18) x20) < (rd x2 x20))) (wrap64 (x20 + 1))) else (none)) else (none)) else (none)) else (none)) else (slabvaultref13_Resize.l1 k x0 x1 x2 x4 x16 x17 x18 false (wrap64 (x20 + 1)))) else (if x19 = true then (if 0 ≤ x18 then (if x18 < (x17.length : Int) then ((slabvaultref12_Place.f k x2 (rd_L1 x17 x18)).bind fun t330 => (if 0 ≤ (wrap64 (t330 * x1)) then (if (wrap64 (t330 * x1)) ≤ (wrap64 ((wrap64 (t330 * x1)) + x1)) then (if (wrap64 ((wrap64 (t330 * x1)) + x1)) ≤ (x0.length : Int) then (if x16.length + ((x0.take ((wrap64 ((wrap64 (t330 * x1)) + x1)) : Int).toNat).drop ((wrap64 (t330 * x1)) : Int).toNat).length < 140737488355328 then (slabvaultref13_Resize.l0 k x0 x1 x2 x4 (x16 ++ ((x0.take ((wrap64 ((wrap64 (t330 * x1)) + x1)) : Int).toNat).drop ((wrap64 (t330 * x1)) : Int).toNat)) x17 (wrap64 (x18 + 1))) else (none)) else (none)) else (none)) else (none))) else (none)) else (none)) else (if x16.length + x4.length < 140737488355328 then (slabvaultref13_Resize.l0 k x0 x1 x2 x4 (x16 ++ x4) x17 (wrap64 (x18 + 1))) else (none)))
end
def slabvaultref13_Resize.f (k : Nat) (l0 : List Int) (a1 : Int) (l2 : List Int) (l3 : List Int) (l4 : List Int) : Option (List Int × Int) := (slabvaultref12_Elements.f k l2).bind fun bt319 => (if bt319.2 = 0 then ((slabvaultref12_Elements.f k l3).bind fun bt321 => (if bt321.2 = 0 then (if (l2.length : Int) = (l3.length : Int) then (if a1 < 1 then (slabvaultref13_Resize.j0 k l0 a1 l2 l3 l4 bt319.1 bt321.1 true) else (slabvaultref13_Resize.j0 k l0 a1 l2 l3 l4 bt319.1 bt321.1 (decide (a1 > 256)))) else (slabvaultref13_Resize.j0 k l0 a1 l2 l3 l4 bt319.1 bt321.1 true)) else (some (([] : List Int), bt321.2)))) else (some (([] : List Int), bt319.2)))
set_option maxHeartbeats 8000000 in
set_option maxRecDepth 100000 in
theorem slabvaultref13_Resize.calls (k : Nat) (A0 : Option Addr) (c0 : Nat) (l0 : List Int) (a1 : Int) (A2 : Option Addr) (c2 : Nat) (l2 : List Int) (A3 : Option Addr) (c3 : Nat) (l3 : List Int) (A4 : Option Addr) (c4 : Nat) (l4 : List Int) (r1 : List Int) (r2 : Int) (w : World) (hr0 : Kd.C (Kd.int .u8) w A0 l0.length l0) (hc0 : l0.length ≤ c0) (hr2 : Kd.C (Kd.int .i64) w A2 l2.length l2) (hc2 : l2.length ≤ c2) (hr3 : Kd.C (Kd.int .i64) w A3 l3.length l3) (hc3 : l3.length ≤ c3) (hr4 : Kd.C (Kd.int .u8) w A4 l4.length l4) (hc4 : l4.length ≤ c4) (h : slabvaultref13_Resize.f k l0 a1 l2 l3 l4 = some (r1, r2)) :
    Calls Try.prog 22 #[.slice A0 l0.length c0, .int .i64 a1, .slice A2 l2.length c2, .slice A3 l3.length c3, .slice A4 l4.length c4] w fun e w' => ∃ v0_ : Value, e = .returned (.tuple #[v0_, .int .i64 r2]) ∧ Kd.R (Kd.int .u8) 5 w' w.heap.size (fun _ => True) v0_ r1 ∧ Below w.heap.size w w' := by
  have HR0 := Aside0.mk hr0
  have HC0 := Aside0.mk hc0
  clear hr0 hc0
  have HR2 := Aside0.mk hr2
  have HC2 := Aside0.mk hc2
  clear hr2 hc2
  have HR3 := Aside0.mk hr3
  have HC3 := Aside0.mk hc3
  clear hr3 hc3
  have HR4 := Aside0.mk hr4
  have HC4 := Aside0.mk hc4
  clear hr4 hc4
  have HB := Aside0.mk (Below.refl w.heap.size w)
  have H : ((slabvaultref12_Elements.f k l2).bind fun bt319 => (if bt319.2 = 0 then ((slabvaultref12_Elements.f k l3).bind fun bt321 => (if bt321.2 = 0 then (if (l2.length : Int) = (l3.length : Int) then (if a1 < 1 then (slabvaultref13_Resize.j0 k l0 a1 l2 l3 l4 bt319.1 bt321.1 true) else (slabvaultref13_Resize.j0 k l0 a1 l2 l3 l4 bt319.1 bt321.1 (decide (a1 > 256)))) else (slabvaultref13_Resize.j0 k l0 a1 l2 l3 l4 bt319.1 bt321.1 true)) else (some (([] : List Int), bt321.2)))) else (some (([] : List Int), bt319.2)))) = some (r1, r2) := h
  clear h
  replace H := Option.bind_eq_some_iff.mp H
  obtain ⟨⟨t319, t320⟩, A60, H⟩ := H
  replace H : (if t320 = 0 then ((slabvaultref12_Elements.f k l3).bind fun bt321 => (if bt321.2 = 0 then (if (l2.length : Int) = (l3.length : Int) then (if a1 < 1 then (slabvaultref13_Resize.j0 k l0 a1 l2 l3 l4 t319 bt321.1 true) else (slabvaultref13_Resize.j0 k l0 a1 l2 l3 l4 t319 bt321.1 (decide (a1 > 256)))) else (slabvaultref13_Resize.j0 k l0 a1 l2 l3 l4 t319 bt321.1 true)) else (some (([] : List Int), bt321.2)))) else (some (([] : List Int), t320))) = some (r1, r2) := H
  have A6 := Aside0.mk A60
  clear A60
  by_cases c7 : t320 = 0
  · rw [if_pos c7] at H
    have c7b0 : (t320 == 0) = true := beq_iff_eq.mpr c7
    have c7b1 : (t320 != 0) = false := bne_eq_false_iff_eq.mpr c7
    clear c7
    replace H := Option.bind_eq_some_iff.mp H
    obtain ⟨⟨t321, t322⟩, A80, H⟩ := H
    replace H : (if t322 = 0 then (if (l2.length : Int) = (l3.length : Int) then (if a1 < 1 then (slabvaultref13_Resize.j0 k l0 a1 l2 l3 l4 t319 t321 true) else (slabvaultref13_Resize.j0 k l0 a1 l2 l3 l4 t319 t321 (decide (a1 > 256)))) else (slabvaultref13_Resize.j0 k l0 a1 l2 l3 l4 t319 t321 true)) else (some (([] : List Int), t322))) = some (r1, r2) := H
    have A8 := Aside0.mk A80
    clear A80
    by_cases c9 : t322 = 0
    · rw [if_pos c9] at H
      have c9b0 : (t322 == 0) = true := beq_iff_eq.mpr c9
      have c9b1 : (t322 != 0) = false := bne_eq_false_iff_eq.mpr c9
      clear c9
      have HC10 := Aside0.mk H
      clear H
      go_enter Try.func22, Try.ntmps22
      go_upto_region 7 with (first | (go_at_call 24; (with_reducible refine (slabvaultref12_Elements.calls k _ _ l2 t319 t320 _ ?side1 ?side2 A6.out).mono ?_); (case side1 => repeat (first | exact HR2.out | (with_reducible refine Kd.C_alloc ?_ _) | (with_reducible refine Kd.C_drewN ?_ _) | (with_reducible refine Kd.C_drew ?_))); (case side2 => exact HC2.out); rintro e w' ⟨rfl, ⟨nd, rfl⟩⟩; (try first | exact ⟨rfl, _, World.drewN_drewN _ _ _⟩ | exact ⟨rfl, _, Eq.trans (World.drewN_drewN _ _ _) (congrArg (World.drewN _) (Nat.add_assoc _ _ _))⟩)) | (go_at_call 24; (with_reducible refine (slabvaultref12_Elements.calls k _ _ l3 t321 t322 _ ?side1 ?side2 A8.out).mono ?_); (case side1 => repeat (first | exact HR3.out | (with_reducible refine Kd.C_alloc ?_ _) | (with_reducible refine Kd.C_drewN ?_ _) | (with_reducible refine Kd.C_drew ?_))); (case side2 => exact HC3.out); rintro e w' ⟨rfl, ⟨nd, rfl⟩⟩; (try first | exact ⟨rfl, _, World.drewN_drewN _ _ _⟩ | exact ⟨rfl, _, Eq.trans (World.drewN_drewN _ _ _) (congrArg (World.drewN _) (Nat.add_assoc _ _ _))⟩)))
      repeat (go_quiet (first | (go_at_call 24; (with_reducible refine (slabvaultref12_Elements.calls k _ _ l2 t319 t320 _ ?side1 ?side2 A6.out).mono ?_); (case side1 => repeat (first | exact HR2.out | (with_reducible refine Kd.C_alloc ?_ _) | (with_reducible refine Kd.C_drewN ?_ _) | (with_reducible refine Kd.C_drew ?_))); (case side2 => exact HC2.out); rintro e w' ⟨rfl, ⟨nd, rfl⟩⟩; (try first | exact ⟨rfl, _, World.drewN_drewN _ _ _⟩ | exact ⟨rfl, _, Eq.trans (World.drewN_drewN _ _ _) (congrArg (World.drewN _) (Nat.add_assoc _ _ _))⟩)) | (go_at_call 24; (with_reducible refine (slabvaultref12_Elements.calls k _ _ l3 t321 t322 _ ?side1 ?side2 A8.out).mono ?_); (case side1 => repeat (first | exact HR3.out | (with_reducible refine Kd.C_alloc ?_ _) | (with_reducible refine Kd.C_drewN ?_ _) | (with_reducible refine Kd.C_drew ?_))); (case side2 => exact HC3.out); rintro e w' ⟨rfl, ⟨nd, rfl⟩⟩; (try first | exact ⟨rfl, _, World.drewN_drewN _ _ _⟩ | exact ⟨rfl, _, Eq.trans (World.drewN_drewN _ _ _) (congrArg (World.drewN _) (Nat.add_assoc _ _ _))⟩))); go_upto_region 7 with (first | (go_at_call 24; (with_reducible refine (slabvaultref12_Elements.calls k _ _ l2 t319 t320 _ ?side1 ?side2 A6.out).mono ?_); (case side1 => repeat (first | exact HR2.out | (with_reducible refine Kd.C_alloc ?_ _) | (with_reducible refine Kd.C_drewN ?_ _) | (with_reducible refine Kd.C_drew ?_))); (case side2 => exact HC2.out); rintro e w' ⟨rfl, ⟨nd, rfl⟩⟩; (try first | exact ⟨rfl, _, World.drewN_drewN _ _ _⟩ | exact ⟨rfl, _, Eq.trans (World.drewN_drewN _ _ _) (congrArg (World.drewN _) (Nat.add_assoc _ _ _))⟩)) | (go_at_call 24; (with_reducible refine (slabvaultref12_Elements.calls k _ _ l3 t321 t322 _ ?side1 ?side2 A8.out).mono ?_); (case side1 => repeat (first | exact HR3.out | (with_reducible refine Kd.C_alloc ?_ _) | (with_reducible refine Kd.C_drewN ?_ _) | (with_reducible refine Kd.C_drew ?_))); (case side2 => exact HC3.out); rintro e w' ⟨rfl, ⟨nd, rfl⟩⟩; (try first | exact ⟨rfl, _, World.drewN_drewN _ _ _⟩ | exact ⟨rfl, _, Eq.trans (World.drewN_drewN _ _ _) (congrArg (World.drewN _) (Nat.add_assoc _ _ _))⟩))))
      (try simp only [Act.put, List.setIfInBounds_toArray, List.set_cons_zero, List.set_cons_succ])
      go_cut [50] (fun v50 wc => ∃ (kq : Nat) (x50_9 : Bool), v50 = .bool x50_9 ∧ Aside0 (slabvaultref13_Resize.j0 kq l0 a1 l2 l3 l4 t319 t321 x50_9 = some (r1, r2)) ∧ Aside0 (kq ≤ k) ∧ Aside0 (Below w.heap.size w wc))
      case first =>
        have H := HC10.out
        clear HC10
        by_cases c11 : (l2.length : Int) = (l3.length : Int)
        · rw [if_pos c11] at H
          have c11b0 : ((l2.length : Int) == (l3.length : Int)) = true := beq_iff_eq.mpr c11
          have c11b1 : ((l2.length : Int) != (l3.length : Int)) = false := bne_eq_false_iff_eq.mpr c11
          have c11b2 : (l2.length == l3.length) = true := by first | simpa using c11 | (simp at c11 ⊢; omega)
          clear c11
          (first | rw [c11b0] | (simp only [i64_w, i32_w]; rw [c11b0]) | skip)
          by_cases c12 : a1 < 1
          · rw [if_pos c12] at H
            have c12b0 : decide (a1 < 1) = true := decide_eq_true c12
            clear c12
            have H' := Aside0.mk H
            clear H
            go_wp2
            repeat (go_quiet (fail); try go_wp2)
            go_meet
            case rel => exact ⟨_, (true), (by first | rfl | (simp; done) | (simp [*]; done)), H', ⟨by first | omega | exact Nat.le_refl _⟩, ⟨by repeat (first | (with_reducible first | exact HB.out | apply below_alloc | apply pw_below_drewN | apply below_drew1) | exact HB.out)⟩⟩
          · rw [if_neg c12] at H
            have c12b0 : decide (a1 < 1) = false := decide_eq_false c12
            clear c12
            have H' := Aside0.mk H
            clear H
            go_wp2
            repeat (go_quiet (fail); try go_wp2)
            go_meet
            case rel => exact ⟨_, (decide (a1 > 256)), (by first | rfl | (simp; done) | (simp [*]; done)), H', ⟨by first | omega | exact Nat.le_refl _⟩, ⟨by repeat (first | (with_reducible first | exact HB.out | apply below_alloc | apply pw_below_drewN | apply below_drew1) | exact HB.out)⟩⟩
        · rw [if_neg c11] at H
          have c11b0 : ((l2.length : Int) == (l3.length : Int)) = false := beq_eq_false_iff_ne.mpr c11
          have c11b1 : ((l2.length : Int) != (l3.length : Int)) = true := bne_iff_ne.mpr c11
          have c11b2 : (l2.length == l3.length) = false := by first | simpa using c11 | (simp at c11 ⊢; omega)
          (first | rw [c11b0] | (simp only [i64_w, i32_w]; rw [c11b0]) | skip)
          have H' := Aside0.mk H
          clear H
          go_wp2
          repeat (go_quiet (fail); try go_wp2)
          go_meet
          case rel => exact ⟨_, (true), (by first | rfl | (simp; done) | (simp [*]; done)), H', ⟨by first | omega | exact Nat.le_refl _⟩, ⟨by repeat (first | (with_reducible first | exact HB.out | apply below_alloc | apply pw_below_drewN | apply below_drew1) | exact HB.out)⟩⟩
      case rest =>
        clear HC10
        try clear c1
        try clear c2
        try clear p2
        try clear c3
        try clear c4
        try clear c7
        try clear c7b0
        try clear c7b1
        try clear c9
        try clear c9b0
        try clear c9b1
        try clear c11
        try clear c11b0
        try clear c11b1
        try clear c11b2
        try clear c12
        try clear c12b0
        obtain ⟨kq, x50_9, rfl, HA, HJ9, HB⟩ := hcut
        cases kq with
        | zero => exact absurd HA.out (by simp [slabvaultref13_Resize.j0])
        | succ kj9 =>
          have H := HA.out
          clear HA
          simp only [slabvaultref13_Resize.j0] at H
          by_cases c13 : x50_9 = true
          · subst c13
            have H1 : (some (([] : List Int), 2)) = some (r1, r2) := by rw [if_pos rfl] at H; exact H
            clear H
            have H := H1
            clear H1
            simp only [Option.some.injEq, Prod.mk.injEq] at H
            obtain ⟨rfl, rfl⟩ := H
            go_wp2
            repeat (go_quiet (fail); try go_wp2)
            go_ret2
            exact ⟨_, by first | rfl | (simp [errW_none, errW_some] <;> rfl) | (simp [*, errW_none, errW_some] <;> rfl), by first | exact Kd.R_nil _ _ _ _ _ | exact Kd.N_nil _ _ _ _ _ | exact Kd.V_nil _ _ _ _ _ | exact Kd.Q_nil _ _ _ _ _ | exact Kd.S_nil _ _ _ _ _, by repeat (first | (with_reducible first | exact HB.out | apply below_alloc | apply pw_below_drewN | apply below_drew1) | exact HB.out)⟩
          · replace c13 := Bool.eq_false_iff.mpr c13
            subst c13
            have H1 : (if (wrap64 (t319 * a1)) > 65536 then (slabvaultref13_Resize.j1 kj9 l0 a1 l2 l3 l4 t319 t321 true) else (slabvaultref13_Resize.j1 kj9 l0 a1 l2 l3 l4 t319 t321 (decide ((wrap64 (t321 * a1)) > 65536)))) = some (r1, r2) := by rw [if_neg (show ¬ (false = true) by decide)] at H; exact H
            clear H
            have H := H1
            clear H1
            have HC14 := Aside0.mk H
            clear H
            go_upto_region 9 with (fail)
            repeat (go_quiet (fail); go_upto_region 9 with (fail))
            go_cut [60] (fun v60 wc => ∃ (kq : Nat) (x60_13 : Bool), v60 = .bool x60_13 ∧ Aside0 (slabvaultref13_Resize.j1 kq l0 a1 l2 l3 l4 t319 t321 x60_13 = some (r1, r2)) ∧ Aside0 (kq ≤ kj9) ∧ Aside0 (Below w.heap.size w wc))
            case first =>
              have H := HC14.out
              clear HC14
              by_cases c15 : (wrap64 (t319 * a1)) > 65536
              · rw [if_pos c15] at H
                have c15b0 : decide (65536 < (wrap64 (t319 * a1))) = true := decide_eq_true c15
                clear c15
                (first | rw [c15b0] | (simp only [i64_w, i32_w]; rw [c15b0]) | skip)
                have H' := Aside0.mk H
                clear H
                go_wp2
                repeat (go_quiet (fail); try go_wp2)
                go_meet
                case rel => exact ⟨_, (true), (by first | rfl | (simp; done) | (simp [*]; done)), H', ⟨by have := HJ9.out; first | omega | exact Nat.le_refl _⟩, ⟨by repeat (first | (with_reducible first | exact HB.out | apply below_alloc | apply pw_below_drewN | apply below_drew1) | exact HB.out)⟩⟩
              · rw [if_neg c15] at H
                have c15b0 : decide (65536 < (wrap64 (t319 * a1))) = false := decide_eq_false c15
                clear c15
                (first | rw [c15b0] | (simp only [i64_w, i32_w]; rw [c15b0]) | skip)
                have H' := Aside0.mk H
                clear H
                go_wp2
                repeat (go_quiet (fail); try go_wp2)
                go_meet
                case rel => exact ⟨_, (decide ((wrap64 (t321 * a1)) > 65536)), (by first | rfl | (simp; done) | (simp [*]; done)), H', ⟨by have := HJ9.out; first | omega | exact Nat.le_refl _⟩, ⟨by repeat (first | (with_reducible first | exact HB.out | apply below_alloc | apply pw_below_drewN | apply below_drew1) | exact HB.out)⟩⟩
            case rest =>
              clear HC14
              try clear c1
              try clear c2
              try clear p2
              try clear c3
              try clear c4
              try clear p6
              try clear c7
              try clear c7b0
              try clear c7b1
              try clear c9
              try clear c9b0
              try clear c9b1
              try clear c11
              try clear c11b0
              try clear c11b1
              try clear c11b2
              try clear c12
              try clear c12b0
              try clear c13
              try clear c15
              try clear c15b0
              try clear p2
              obtain ⟨kq, x60_13, rfl, HA, HJ13, HB⟩ := hcut
              cases kq with
              | zero => exact absurd HA.out (by simp [slabvaultref13_Resize.j1])
              | succ kj13 =>
                have H := HA.out
                clear HA
                simp only [slabvaultref13_Resize.j1] at H
                by_cases c16 : x60_13 = true
                · subst c16
                  have H1 : (some (([] : List Int), 3)) = some (r1, r2) := by rw [if_pos rfl] at H; exact H
                  clear H
                  have H := H1
                  clear H1
                  simp only [Option.some.injEq, Prod.mk.injEq] at H
                  obtain ⟨rfl, rfl⟩ := H
                  go_wp2
                  repeat (go_quiet (fail); try go_wp2)
                  go_ret2
                  exact ⟨_, by first | rfl | (simp [errW_none, errW_some] <;> rfl) | (simp [*, errW_none, errW_some] <;> rfl), by first | exact Kd.R_nil _ _ _ _ _ | exact Kd.N_nil _ _ _ _ _ | exact Kd.V_nil _ _ _ _ _ | exact Kd.Q_nil _ _ _ _ _ | exact Kd.S_nil _ _ _ _ _, by repeat (first | (with_reducible first | exact HB.out | apply below_alloc | apply pw_below_drewN | apply below_drew1) | exact HB.out)⟩
                · replace c16 := Bool.eq_false_iff.mpr c16
                  subst c16
                  have H1 : (if (l0.length : Int) = (wrap64 (t319 * a1)) then (slabvaultref13_Resize.j2 kj13 l0 a1 l2 l3 l4 t321 ((l4.length : Int) != a1)) else (slabvaultref13_Resize.j2 kj13 l0 a1 l2 l3 l4 t321 true)) = some (r1, r2) := by rw [if_neg (show ¬ (false = true) by decide)] at H; exact H
                  clear H
                  have H := H1
                  clear H1
                  have HC17 := Aside0.mk H
                  clear H
                  go_upto_region 11 with (fail)
                  repeat (go_quiet (fail); go_upto_region 11 with (fail))
                  go_cut [72] (fun v72 wc => ∃ (kq : Nat) (x72_16 : Bool), v72 = .bool x72_16 ∧ Aside0 (slabvaultref13_Resize.j2 kq l0 a1 l2 l3 l4 t321 x72_16 = some (r1, r2)) ∧ Aside0 (kq ≤ kj13) ∧ Aside0 (Below w.heap.size w wc))
                  case first =>
                    have H := HC17.out
                    clear HC17
                    by_cases c18 : (l0.length : Int) = (wrap64 (t319 * a1))
                    · rw [if_pos c18] at H
                      have c18b0 : ((l0.length : Int) == (wrap64 (t319 * a1))) = true := beq_iff_eq.mpr c18
                      have c18b1 : ((l0.length : Int) != (wrap64 (t319 * a1))) = false := bne_eq_false_iff_eq.mpr c18
                      clear c18
                      (first | rw [c18b0] | (simp only [i64_w, i32_w]; rw [c18b0]) | skip)
                      have H' := Aside0.mk H
                      clear H
                      go_wp2
                      repeat (go_quiet (fail); try go_wp2)
                      go_meet
                      case rel => exact ⟨_, (((l4.length : Int) != a1)), (by first | rfl | (simp; done) | (simp [*]; done)), H', ⟨by have := HJ9.out; have := HJ13.out; first | omega | exact Nat.le_refl _⟩, ⟨by repeat (first | (with_reducible first | exact HB.out | apply below_alloc | apply pw_below_drewN | apply below_drew1) | exact HB.out)⟩⟩
                    · rw [if_neg c18] at H
                      have c18b0 : ((l0.length : Int) == (wrap64 (t319 * a1))) = false := beq_eq_false_iff_ne.mpr c18
                      have c18b1 : ((l0.length : Int) != (wrap64 (t319 * a1))) = true := bne_iff_ne.mpr c18
                      (first | rw [c18b0] | (simp only [i64_w, i32_w]; rw [c18b0]) | skip)
                      have H' := Aside0.mk H
                      clear H
                      go_wp2
                      repeat (go_quiet (fail); try go_wp2)
                      go_meet
                      case rel => exact ⟨_, (true), (by first | rfl | (simp; done) | (simp [*]; done)), H', ⟨by have := HJ9.out; have := HJ13.out; first | omega | exact Nat.le_refl _⟩, ⟨by repeat (first | (with_reducible first | exact HB.out | apply below_alloc | apply pw_below_drewN | apply below_drew1) | exact HB.out)⟩⟩
                  case rest =>
                    clear HC17
                    try clear c1
                    try clear c2
                    try clear p2
                    try clear c3
                    try clear c4
                    try clear p6
                    try clear c7
                    try clear c7b0
                    try clear c7b1
                    try clear c9
                    try clear c9b0
                    try clear c9b1
                    try clear c11
                    try clear c11b0
                    try clear c11b1
                    try clear c11b2
                    try clear c12
                    try clear c12b0
                    try clear c13
                    try clear c15
                    try clear c15b0
                    try clear c16
                    try clear c18
                    try clear c18b0
                    try clear c18b1
                    try clear p2
                    try clear p6
                    obtain ⟨kq, x72_16, rfl, HA, HJ16, HB⟩ := hcut
                    cases kq with
                    | zero => exact absurd HA.out (by simp [slabvaultref13_Resize.j2])
                    | succ kj16 =>
                      have H := HA.out
                      clear HA
                      simp only [slabvaultref13_Resize.j2] at H
                      by_cases c19 : x72_16 = true
                      · subst c19
                        have H1 : (some (([] : List Int), 2)) = some (r1, r2) := by rw [if_pos rfl] at H; exact H
                        clear H
                        have H := H1
                        clear H1
                        simp only [Option.some.injEq, Prod.mk.injEq] at H
                        obtain ⟨rfl, rfl⟩ := H
                        go_wp2
                        repeat (go_quiet (fail); try go_wp2)
                        go_ret2
                        exact ⟨_, by first | rfl | (simp [errW_none, errW_some] <;> rfl) | (simp [*, errW_none, errW_some] <;> rfl), by first | exact Kd.R_nil _ _ _ _ _ | exact Kd.N_nil _ _ _ _ _ | exact Kd.V_nil _ _ _ _ _ | exact Kd.Q_nil _ _ _ _ _ | exact Kd.S_nil _ _ _ _ _, by repeat (first | (with_reducible first | exact HB.out | apply below_alloc | apply pw_below_drewN | apply below_drew1) | exact HB.out)⟩
                      · replace c19 := Bool.eq_false_iff.mpr c19
                        subst c19
                        have H1 : (if t321 = 0 then (some (([] : List Int), 0)) else ((slabvaultref13_tuples.f kj16 l3).bind fun t323 => (slabvaultref13_Resize.l0 kj16 l0 a1 l2 l4 ([] : List Int) t323 0))) = some (r1, r2) := by rw [if_neg (show ¬ (false = true) by decide)] at H; exact H
                        clear H
                        have H := H1
                        clear H1
                        by_cases c20 : t321 = 0
                        · rw [if_pos c20] at H
                          have c20b0 : (t321 == 0) = true := beq_iff_eq.mpr c20
                          have c20b1 : (t321 != 0) = false := bne_eq_false_iff_eq.mpr c20
                          clear c20
                          simp only [Option.some.injEq, Prod.mk.injEq] at H
                          obtain ⟨rfl, rfl⟩ := H
                          go_wp2
                          repeat (go_quiet (fail); try go_wp2)
                          go_ret2
                          exact ⟨_, by first | rfl | (simp [errW_none, errW_some] <;> rfl) | (simp [*, errW_none, errW_some] <;> rfl), by first | exact Kd.R_nil _ _ _ _ _ | exact Kd.N_nil _ _ _ _ _ | exact Kd.V_nil _ _ _ _ _ | exact Kd.Q_nil _ _ _ _ _ | exact Kd.S_nil _ _ _ _ _, by repeat (first | (with_reducible first | exact HB.out | apply below_alloc | apply pw_below_drewN | apply below_drew1) | exact HB.out)⟩
                        · rw [if_neg c20] at H
                          have c20b0 : (t321 == 0) = false := beq_eq_false_iff_ne.mpr c20
                          have c20b1 : (t321 != 0) = true := bne_iff_ne.mpr c20
                          replace H := Option.bind_eq_some_iff.mp H
                          obtain ⟨t323, A210, H⟩ := H
                          replace H : (slabvaultref13_Resize.l0 kj16 l0 a1 l2 l4 ([] : List Int) t323 0) = some (r1, r2) := H
                          have A21 := Aside0.mk A210
                          clear A210
                          have H' := Aside0.mk H
                          clear H
                          go_wp2_with (first | (go_at_call 45; (with_reducible refine (slabvaultref13_tuples.calls kj16 _ _ l3 t323 _ ?side1 ?side2 A21.out).mono ?_); (case side1 => repeat (first | exact (Kd.C_below HR3.out HB.out) | (with_reducible refine Kd.C_alloc ?_ _) | (with_reducible refine Kd.C_drewN ?_ _) | (with_reducible refine Kd.C_drew ?_))); (case side2 => exact HC3.out); rintro e w22 ⟨v324, rfl, ho0, hb⟩; have n0_ := Aside0.mk (Kd.N_lower (Kd.N_mono (ok' := fun k_ => True) ho0 (fun k_ hk_ => trivial)) (below_size (by repeat (first | (with_reducible first | exact HB.out | apply below_alloc | apply pw_below_drewN | apply below_drew1) | exact HB.out)))); have n1_ := Aside0.mk (below_step (by repeat (first | (with_reducible first | exact HB.out | apply below_alloc | apply pw_below_drewN | apply below_drew1) | exact HB.out)) hb); clear HB; have HO325 := n0_; have HB := n1_; clear n0_ n1_; (try clear hb); (try clear hb2); (try clear hk); (try clear hi); (try clear ho0)))
                          repeat (go_quiet (first | (go_at_call 45; (with_reducible refine (slabvaultref13_tuples.calls kj16 _ _ l3 t323 _ ?side1 ?side2 A21.out).mono ?_); (case side1 => repeat (first | exact (Kd.C_below HR3.out HB.out) | (with_reducible refine Kd.C_alloc ?_ _) | (with_reducible refine Kd.C_drewN ?_ _) | (with_reducible refine Kd.C_drew ?_))); (case side2 => exact HC3.out); rintro e w22 ⟨v324, rfl, ho0, hb⟩; have n0_ := Aside0.mk (Kd.N_lower (Kd.N_mono (ok' := fun k_ => True) ho0 (fun k_ hk_ => trivial)) (below_size (by repeat (first | (with_reducible first | exact HB.out | apply below_alloc | apply pw_below_drewN | apply below_drew1) | exact HB.out)))); have n1_ := Aside0.mk (below_step (by repeat (first | (with_reducible first | exact HB.out | apply below_alloc | apply pw_below_drewN | apply below_drew1) | exact HB.out)) hb); clear HB; have HO325 := n0_; have HB := n1_; clear n0_ n1_; (try clear hb); (try clear hb2); (try clear hk); (try clear hi); (try clear ho0))); try go_wp2_with (first | (go_at_call 45; (with_reducible refine (slabvaultref13_tuples.calls kj16 _ _ l3 t323 _ ?side1 ?side2 A21.out).mono ?_); (case side1 => repeat (first | exact (Kd.C_below HR3.out HB.out) | (with_reducible refine Kd.C_alloc ?_ _) | (with_reducible refine Kd.C_drewN ?_ _) | (with_reducible refine Kd.C_drew ?_))); (case side2 => exact HC3.out); rintro e w22 ⟨v324, rfl, ho0, hb⟩; have n0_ := Aside0.mk (Kd.N_lower (Kd.N_mono (ok' := fun k_ => True) ho0 (fun k_ hk_ => trivial)) (below_size (by repeat (first | (with_reducible first | exact HB.out | apply below_alloc | apply pw_below_drewN | apply below_drew1) | exact HB.out)))); have n1_ := Aside0.mk (below_step (by repeat (first | (with_reducible first | exact HB.out | apply below_alloc | apply pw_below_drewN | apply below_drew1) | exact HB.out)) hb); clear HB; have HO325 := n0_; have HB := n1_; clear n0_ n1_; (try clear hb); (try clear hb2); (try clear hk); (try clear hi); (try clear ho0))))
                          go_loopg [16, 18] kj16 (fun kq v16 v18 w' => ∃ (x16_4 : List Int) (x18_4 : Int), v18 = .int .i64 x18_4 ∧ Aside0 (slabvaultref13_Resize.l0 kq l0 a1 l2 l4 x16_4 t323 x18_4 = some (r1, r2)) ∧ Aside0 (kq ≤ kj16) ∧ Aside0 (Kd.R (Kd.int .u8) 5 w' w.heap.size (fun _ => True) v16 x16_4) ∧ Aside0 (Kd.N (Kd.slice 3 (Kd.int .i64)) 22 w' w.heap.size (fun k_ => some k_ ≠ (v16 : Value).ownBlock) v324 t323) ∧ Aside0 (Below w.heap.size w w'))
                          case atStart => exact ⟨(([] : List Int)), (0), (by first | rfl | (simp; done) | (simp [*]; done)), H', ⟨Nat.le_refl _⟩, ⟨by first | exact Kd.R_nil _ _ _ _ _ | exact Kd.N_nil _ _ _ _ _ | exact Kd.V_nil _ _ _ _ _ | exact Kd.Q_nil _ _ _ _ _ | exact Kd.S_nil _ _ _ _ _⟩, ⟨by (with_reducible repeat (first | apply Kd.N_alloc | apply Kd.N_drewN | apply Kd.N_drew)); exact Kd.N_mono HO325.out (fun _ hk => (by simp [Value.ownBlock]))⟩, ⟨by repeat (first | (with_reducible first | exact HB.out | apply below_alloc | apply pw_below_drewN | apply below_drew1) | exact HB.out)⟩⟩
                          case round =>
                            clear H'
                            try clear c1
                            try clear c2
                            try clear p2
                            try clear c3
                            try clear c4
                            try clear p6
                            try clear c7
                            try clear c7b0
                            try clear c7b1
                            try clear c9
                            try clear c9b0
                            try clear c9b1
                            try clear c11
                            try clear c11b0
                            try clear c11b1
                            try clear c11b2
                            try clear c12
                            try clear c12b0
                            try clear c13
                            try clear c15
                            try clear c15b0
                            try clear c16
                            try clear c18
                            try clear c18b0
                            try clear c18b1
                            try clear c19
                            try clear c20
                            try clear c20b0
                            try clear c20b1
                            try clear c22
                            try clear p2
                            try clear p6
                            obtain ⟨x16_4, x18_4, rfl, HA, HK4, HO_16, HO_17, HB⟩ := hrel
                            cases gk with
                            | zero => exact absurd HA.out (by simp [slabvaultref13_Resize.l0])
                            | succ k4 =>
                              have H := HA.out
                              clear HA
                              simp only [slabvaultref13_Resize.l0] at H
                              by_cases c23 : x18_4 < (t323.length : Int)
                              · rw [if_pos c23] at H
                                have c23b0 : decide (x18_4 < (t323.length : Int)) = true := decide_eq_true c23
                                clear c23
                                have H' := Aside0.mk H
                                clear H
                                obtain ⟨Ao24, co24, eo24⟩ := Kd.N_slice HO_17.out
                                subst eo24
                                go_wp2
                                repeat (go_quiet (fail); try go_wp2)
                                go_loopg [19, 20] k4 (fun kq v19 v20 w' => ∃ (x19_5 : Bool) (x20_5 : Int), v19 = .bool x19_5 ∧ v20 = .int .i64 x20_5 ∧ Aside0 (slabvaultref13_Resize.l1 kq l0 a1 l2 l4 x16_4 t323 x18_4 x19_5 x20_5 = some (r1, r2)) ∧ Aside0 (kq ≤ k4) ∧ Aside0 (Kd.R (Kd.int .u8) 5 w' w.heap.size (fun _ => True) u16 x16_4) ∧ Aside0 (Kd.N (Kd.slice 3 (Kd.int .i64)) 22 w' w.heap.size (fun k_ => some k_ ≠ (u16 : Value).ownBlock) (.slice Ao24 t323.length co24) t323) ∧ Aside0 (Below w.heap.size w w'))
                                case atStart => exact ⟨(true), (0), (by first | rfl | (simp; done) | (simp [*]; done)), (by first | rfl | (simp; done) | (simp [*]; done)), H', ⟨Nat.le_refl _⟩, ⟨by (with_reducible repeat (first | apply Kd.R_alloc | apply Kd.R_drewN | apply Kd.R_drew)); exact HO_16.out⟩, ⟨by (with_reducible repeat (first | apply Kd.N_alloc | apply Kd.N_drewN | apply Kd.N_drew)); exact HO_17.out⟩, ⟨by repeat (first | (with_reducible first | exact HB.out | apply below_alloc | apply pw_below_drewN | apply below_drew1) | exact HB.out)⟩⟩
                                case round =>
                                  clear H'
                                  try clear c1
                                  try clear c2
                                  try clear p2
                                  try clear c3
                                  try clear c4
                                  try clear p6
                                  try clear c7
                                  try clear c7b0
                                  try clear c7b1
                                  try clear c9
                                  try clear c9b0
                                  try clear c9b1
                                  try clear c11
                                  try clear c11b0
                                  try clear c11b1
                                  try clear c11b2
                                  try clear c12
                                  try clear c12b0
                                  try clear c13
                                  try clear c15
                                  try clear c15b0
                                  try clear c16
                                  try clear c18
                                  try clear c18b0
                                  try clear c18b1
                                  try clear c19
                                  try clear c20
                                  try clear c20b0
                                  try clear c20b1
                                  try clear c22
                                  try clear c23
                                  try clear c23b0
                                  try clear p2
                                  try clear p6
                                  obtain ⟨x19_5, x20_5, rfl, rfl, HA, HK5, HO_16, HO_17, HB⟩ := hrel
                                  cases gk with
                                  | zero => exact absurd HA.out (by simp [slabvaultref13_Resize.l1])
                                  | succ k5 =>
                                    have H := HA.out
                                    clear HA
                                    simp only [slabvaultref13_Resize.l1] at H
                                    by_cases c25 : x20_5 < (l2.length : Int)
                                    · rw [if_pos c25] at H
                                      have c25b0 : decide (x20_5 < (l2.length : Int)) = true := decide_eq_true c25
                                      clear c25
                                      by_cases c26 : x19_5 = true
                                      · subst c26
                                        have H1 : (if 0 ≤ x18_4 then (if x18_4 < (t323.length : Int) then (if 0 ≤ x20_5 then (if x20_5 < ((rd_L1 t323 x18_4).length : Int) then (slabvaultref13_Resize.l1 k5 l0 a1 l2 l4 x16_4 t323 x18_4 (decide ((rd (rd_L1 t323 x18_4) x20_5) < (rd l2 x20_5))) (wrap64 (x20_5 + 1))) else (none)) else (none)) else (none)) else (none)) = some (r1, r2) := by rw [if_pos rfl] at H; exact H
                                        clear H
                                        have H := H1
                                        clear H1
                                        by_cases c27 : 0 ≤ x18_4
                                        · rw [if_pos c27] at H
                                          have c27b0 : decide (0 ≤ x18_4) = true := decide_eq_true c27
                                          clear c27
                                          by_cases c28 : x18_4 < (t323.length : Int)
                                          · rw [if_pos c28] at H
                                            have c28b0 : decide (x18_4 < (t323.length : Int)) = true := decide_eq_true c28
                                            clear c28
                                            by_cases c29 : 0 ≤ x20_5
                                            · rw [if_pos c29] at H
                                              have c29b0 : decide (0 ≤ x20_5) = true := decide_eq_true c29
                                              clear c29
                                              by_cases c30 : x20_5 < ((rd_L1 t323 x18_4).length : Int)
                                              · rw [if_pos c30] at H
                                                have c30b0 : decide (x20_5 < ((rd_L1 t323 x18_4).length : Int)) = true := decide_eq_true c30
                                                clear c30
                                                have H' := Aside0.mk H
                                                clear H
                                                have p326 : 0 ≤ (x18_4 : Int) := of_decide_eq_true (by first | (with_reducible assumption) | assumption)
                                                have q326 : x18_4 < (t323.length : Int) := of_decide_eq_true (by first | (with_reducible assumption) | assumption)
                                                obtain ⟨ad326, A326_0, c326_0, e326, hx326_0, hl326_0, hi326_0⟩ := at_L1 (Kd.N_reads' HO_17.out).2.2 x18_4 p326 q326
                                                cases e326
                                                obtain ⟨ce326, hce326, hMe326, hcc326⟩ := Kd.N_get HO_17.out [] x18_4 p326 (by first | exact q326 | exact of_decide_eq_true (by first | (with_reducible assumption) | assumption) | (have e_ := (Kd.N_reads' HO_17.out).1; omega))
                                                obtain ⟨ua326_0, uc326_0, rfl, ul326_0, ge326_0⟩ := Kd.FK_slice_open hMe326
                                                have hv326_0 := hcc326 0 _ rfl
                                                rw [Nat.add_zero, show ((Kd.slice 3 (Kd.int .i64))).sz = 1 from rfl, Nat.mul_one] at hv326_0
                                                replace hv326_0 := Option.some.inj (hv326_0.symm.trans hx326_0)
                                                injection hv326_0 with hva_ hvn_ hvc_
                                                rw [hva_] at ge326_0
                                                rw [hvc_] at ul326_0
                                                have HL326_0 := Aside0.mk (show Kd.V (Kd.int .i64) 3 _ w.heap.size _ _ (rd_L1 t323 x18_4) from Kd.V_mk ul326_0 ge326_0)
                                                clear hva_ hvn_ hvc_ ge326_0 ul326_0
                                                clear hcc326 hce326
                                                have HR326_0 := Aside0.mk hi326_0
                                                have HC326_0 := Aside0.mk hl326_0
                                                clear hi326_0 hl326_0
                                                replace p326 := eq_true p326
                                                replace q326 := eq_true q326
                                                have p327 : 0 ≤ (x20_5 : Int) := of_decide_eq_true (by first | (with_reducible assumption) | assumption)
                                                have q327 : x20_5 < ((rd_L1 t323 x18_4).length : Int) := of_decide_eq_true (by first | (with_reducible assumption) | assumption)
                                                obtain ⟨ad327, e327, hx327_0⟩ := Kd.at_int (by repeat (first | (with_reducible exact HR326_0.out) | (with_reducible refine Kd.C_alloc ?_ _) | (with_reducible refine Kd.C_drewN ?_ _) | (with_reducible refine Kd.C_drew ?_) | exact HR326_0.out)) x20_5 p327 q327
                                                cases e327
                                                replace p327 := eq_true p327
                                                replace q327 := eq_true q327
                                                have p328 : 0 ≤ (x20_5 : Int) := of_decide_eq_true (by first | (with_reducible assumption) | assumption)
                                                have q328 : x20_5 < (l2.length : Int) := of_decide_eq_true (by first | (with_reducible assumption) | assumption)
                                                obtain ⟨ad328, e328, hx328_0⟩ := Kd.at_int HR2.out x20_5 p328 q328
                                                cases e328
                                                replace hx328_0 := (HB.out.cell (World.block_lt_of_cell? w _ hx328_0)).trans hx328_0
                                                replace p328 := eq_true p328
                                                replace q328 := eq_true q328
                                                go_wp2
                                                repeat (go_quiet (fail); try go_wp2)
                                                go_roundg k5
                                                case measure => have := HJ9.out; have := HJ13.out; have := HJ16.out; have := HK4.out; have := HK5.out; omega
                                                case rel => exact ⟨(decide ((rd (rd_L1 t323 x18_4) x20_5) < (rd l2 x20_5))), (wrap64 (x20_5 + 1)), (by first | rfl | (simp; done) | (simp [*]; done)), (by first | rfl | (simp; done) | (simp [*]; done)), H', ⟨by have := HJ9.out; have := HJ13.out; have := HJ16.out; have := HK4.out; have := HK5.out; omega⟩, ⟨by (with_reducible repeat (first | apply Kd.R_alloc | apply Kd.R_drewN | apply Kd.R_drew)); exact HO_16.out⟩, ⟨by (with_reducible repeat (first | apply Kd.N_alloc | apply Kd.N_drewN | apply Kd.N_drew)); exact HO_17.out⟩, ⟨by repeat (first | (with_reducible first | exact HB.out | apply below_alloc | apply pw_below_drewN | apply below_drew1) | exact HB.out)⟩⟩
                                              · rw [if_neg c30] at H
                                                exact absurd H (by simp)
                                            · rw [if_neg c29] at H
                                              exact absurd H (by simp)
                                          · rw [if_neg c28] at H
                                            exact absurd H (by simp)
                                        · rw [if_neg c27] at H
                                          exact absurd H (by simp)
                                      · replace c26 := Bool.eq_false_iff.mpr c26
                                        subst c26
                                        have H1 : (slabvaultref13_Resize.l1 k5 l0 a1 l2 l4 x16_4 t323 x18_4 false (wrap64 (x20_5 + 1))) = some (r1, r2) := by rw [if_neg (show ¬ (false = true) by decide)] at H; exact H
                                        clear H
                                        have H := H1
                                        clear H1
                                        have H' := Aside0.mk H
                                        clear H
                                        go_wp2
                                        repeat (go_quiet (fail); try go_wp2)
                                        go_roundg k5
                                        case measure => have := HJ9.out; have := HJ13.out; have := HJ16.out; have := HK4.out; have := HK5.out; omega
                                        case rel => exact ⟨(false), (wrap64 (x20_5 + 1)), (by first | rfl | (simp; done) | (simp [*]; done)), (by first | rfl | (simp; done) | (simp [*]; done)), H', ⟨by have := HJ9.out; have := HJ13.out; have := HJ16.out; have := HK4.out; have := HK5.out; omega⟩, ⟨by (with_reducible repeat (first | apply Kd.R_alloc | apply Kd.R_drewN | apply Kd.R_drew)); exact HO_16.out⟩, ⟨by (with_reducible repeat (first | apply Kd.N_alloc | apply Kd.N_drewN | apply Kd.N_drew)); exact HO_17.out⟩, ⟨by repeat (first | (with_reducible first | exact HB.out | apply below_alloc | apply pw_below_drewN | apply below_drew1) | exact HB.out)⟩⟩
                                    · rw [if_neg c25] at H
                                      have c25b0 : decide (x20_5 < (l2.length : Int)) = false := decide_eq_false c25
                                      clear c25
                                      by_cases c31 : x19_5 = true
                                      · subst c31
                                        have H1 : (if 0 ≤ x18_4 then (if x18_4 < (t323.length : Int) then ((slabvaultref12_Place.f k5 l2 (rd_L1 t323 x18_4)).bind fun t330 => (if 0 ≤ (wrap64 (t330 * a1)) then (if (wrap64 (t330 * a1)) ≤ (wrap64 ((wrap64 (t330 * a1)) + a1)) then (if (wrap64 ((wrap64 (t330 * a1)) + a1)) ≤ (l0.length : Int) then (if x16_4.length + ((l0.take ((wrap64 ((wrap64 (t330 * a1)) + a1)) : Int).toNat).drop ((wrap64 (t330 * a1)) : Int).toNat).length < 140737488355328 then (slabvaultref13_Resize.l0 k5 l0 a1 l2 l4 (x16_4 ++ ((l0.take ((wrap64 ((wrap64 (t330 * a1)) + a1)) : Int).toNat).drop ((wrap64 (t330 * a1)) : Int).toNat)) t323 (wrap64 (x18_4 + 1))) else (none)) else (none)) else (none)) else (none))) else (none)) else (none)) = some (r1, r2) := by rw [if_pos rfl] at H; exact H
                                        clear H
                                        have H := H1
                                        clear H1
                                        by_cases c32 : 0 ≤ x18_4
                                        · rw [if_pos c32] at H
                                          have c32b0 : decide (0 ≤ x18_4) = true := decide_eq_true c32
                                          clear c32
                                          by_cases c33 : x18_4 < (t323.length : Int)
                                          · rw [if_pos c33] at H
                                            have c33b0 : decide (x18_4 < (t323.length : Int)) = true := decide_eq_true c33
                                            clear c33
                                            replace H := Option.bind_eq_some_iff.mp H
                                            obtain ⟨t330, A340, H⟩ := H
                                            replace H : (if 0 ≤ (wrap64 (t330 * a1)) then (if (wrap64 (t330 * a1)) ≤ (wrap64 ((wrap64 (t330 * a1)) + a1)) then (if (wrap64 ((wrap64 (t330 * a1)) + a1)) ≤ (l0.length : Int) then (if x16_4.length + ((l0.take ((wrap64 ((wrap64 (t330 * a1)) + a1)) : Int).toNat).drop ((wrap64 (t330 * a1)) : Int).toNat).length < 140737488355328 then (slabvaultref13_Resize.l0 k5 l0 a1 l2 l4 (x16_4 ++ ((l0.take ((wrap64 ((wrap64 (t330 * a1)) + a1)) : Int).toNat).drop ((wrap64 (t330 * a1)) : Int).toNat)) t323 (wrap64 (x18_4 + 1))) else (none)) else (none)) else (none)) else (none)) = some (r1, r2) := H
                                            have A34 := Aside0.mk A340
                                            clear A340
                                            obtain ⟨ji35, hji35⟩ : ∃ j_ : Int, (wrap64 (t330 * a1)) = j_ := ⟨_, rfl⟩
                                            replace H : (if 0 ≤ (ji35) then (if (ji35) ≤ (wrap64 ((ji35) + a1)) then (if (wrap64 ((ji35) + a1)) ≤ (l0.length : Int) then (if x16_4.length + ((l0.take ((wrap64 ((ji35) + a1)) : Int).toNat).drop ((ji35) : Int).toNat).length < 140737488355328 then (slabvaultref13_Resize.l0 k5 l0 a1 l2 l4 (x16_4 ++ ((l0.take ((wrap64 ((ji35) + a1)) : Int).toNat).drop ((ji35) : Int).toNat)) t323 (wrap64 (x18_4 + 1))) else (none)) else (none)) else (none)) else (none)) = some (r1, r2) := by first | (rw [hji35] at H; exact H) | (simp only [hji35] at H ⊢; exact H)
                                            (try rw [hji35] at A34)
                                            have hji35w : (IntKind.i64.wrap (t330 * a1)) = ji35 := (i64_w _).trans hji35
                                            by_cases c36 : 0 ≤ (ji35)
                                            · rw [if_pos c36] at H
                                              have c36b0 := eq_true c36
                                              have c36b1 : decide (0 ≤ (ji35)) = true := decide_eq_true c36
                                              clear c36
                                              by_cases c37 : (ji35) ≤ (wrap64 ((ji35) + a1))
                                              · rw [if_pos c37] at H
                                                have c37b0 := eq_true c37
                                                have c37b1 : decide ((ji35) ≤ (wrap64 ((ji35) + a1))) = true := decide_eq_true c37
                                                by_cases c38 : (wrap64 ((ji35) + a1)) ≤ (l0.length : Int)
                                                · rw [if_pos c38] at H
                                                  have c38b0 := eq_true c38
                                                  have c38b1 : decide ((wrap64 ((ji35) + a1)) ≤ (l0.length : Int)) = true := decide_eq_true c38
                                                  by_cases c39 : x16_4.length + ((l0.take ((wrap64 ((ji35) + a1)) : Int).toNat).drop ((ji35) : Int).toNat).length < 140737488355328
                                                  · rw [if_pos c39] at H
                                                    have LMc39 := Aside0.mk c39
                                                    clear c39
                                                    obtain ⟨y332, hy332⟩ : ∃ y_ : List Int, y_ = (x16_4 ++ ((l0.take ((wrap64 ((ji35) + a1)) : Int).toNat).drop ((ji35) : Int).toNat)) := ⟨_, rfl⟩
                                                    replace H : (slabvaultref13_Resize.l0 k5 l0 a1 l2 l4 y332 t323 (wrap64 (x18_4 + 1))) = some (r1, r2) := by first | (rw [hy332]; with_reducible exact H) | (have H2_ := (Option.bind_some _ _).symm.trans H; rw [hy332]; with_reducible exact H2_) | (have H2_ := (Option.bind_some _ _).symm.trans H; with_reducible exact H2_) | with_reducible exact H | (rw [hy332]; exact H) | exact H
                                                    have Ny332 := Aside0.mk hy332
                                                    clear hy332
                                                    have H' := Aside0.mk H
                                                    clear H
                                                    have p329 : 0 ≤ (x18_4 : Int) := of_decide_eq_true (by first | (with_reducible assumption) | assumption)
                                                    have q329 : x18_4 < (t323.length : Int) := of_decide_eq_true (by first | (with_reducible assumption) | assumption)
                                                    obtain ⟨ad329, A329_0, c329_0, e329, hx329_0, hl329_0, hi329_0⟩ := at_L1 (Kd.N_reads' HO_17.out).2.2 x18_4 p329 q329
                                                    cases e329
                                                    obtain ⟨ce329, hce329, hMe329, hcc329⟩ := Kd.N_get HO_17.out [] x18_4 p329 (by first | exact q329 | exact of_decide_eq_true (by first | (with_reducible assumption) | assumption) | (have e_ := (Kd.N_reads' HO_17.out).1; omega))
                                                    obtain ⟨ua329_0, uc329_0, rfl, ul329_0, ge329_0⟩ := Kd.FK_slice_open hMe329
                                                    have hv329_0 := hcc329 0 _ rfl
                                                    rw [Nat.add_zero, show ((Kd.slice 3 (Kd.int .i64))).sz = 1 from rfl, Nat.mul_one] at hv329_0
                                                    replace hv329_0 := Option.some.inj (hv329_0.symm.trans hx329_0)
                                                    injection hv329_0 with hva_ hvn_ hvc_
                                                    rw [hva_] at ge329_0
                                                    rw [hvc_] at ul329_0
                                                    have HL329_0 := Aside0.mk (show Kd.V (Kd.int .i64) 3 _ w.heap.size _ _ (rd_L1 t323 x18_4) from Kd.V_mk ul329_0 ge329_0)
                                                    clear hva_ hvn_ hvc_ ge329_0 ul329_0
                                                    clear hcc329 hce329
                                                    have HR329_0 := Aside0.mk hi329_0
                                                    have HC329_0 := Aside0.mk hl329_0
                                                    clear hi329_0 hl329_0
                                                    replace p329 := eq_true p329
                                                    replace q329 := eq_true q329
                                                    go_wp2_with (first | (go_at_call 47; (with_reducible refine (slabvaultref12_Place.calls k5 _ _ l2 _ _ (rd_L1 t323 x18_4) t330 _ ?side1 ?side2 ?side3 ?side4 A34.out).mono ?_); (case side1 => repeat (first | exact (Kd.C_below HR2.out HB.out) | (with_reducible refine Kd.C_alloc ?_ _) | (with_reducible refine Kd.C_drewN ?_ _) | (with_reducible refine Kd.C_drew ?_))); (case side2 => exact HC2.out); (case side3 => repeat (first | exact (by repeat (first | (with_reducible exact HR329_0.out) | (with_reducible refine Kd.C_alloc ?_ _) | (with_reducible refine Kd.C_drewN ?_ _) | (with_reducible refine Kd.C_drew ?_) | exact HR329_0.out)) | (with_reducible refine Kd.C_alloc ?_ _) | (with_reducible refine Kd.C_drewN ?_ _) | (with_reducible refine Kd.C_drew ?_))); (case side4 => exact HC329_0.out); rintro e w' ⟨rfl, ⟨nd, rfl⟩⟩; (try first | exact ⟨rfl, _, World.drewN_drewN _ _ _⟩ | exact ⟨rfl, _, Eq.trans (World.drewN_drewN _ _ _) (congrArg (World.drewN _) (Nat.add_assoc _ _ _))⟩); obtain ⟨i040, hi040, _, hsz40, _⟩ := info_parts info5; obtain ⟨A40, hcut40, hA40, hC40⟩ := print_mid_of (P := Try.prog) (Value.int .u8) 0 31 5 .i64 .i64 Try.underlying31 hi040 hsz40 A0 c0 l0 (ji35) (wrap64 ((ji35) + a1)) (of_decide_eq_true (by first | (with_reducible assumption) | assumption)) (by first | omega | exact of_decide_eq_true (by first | (with_reducible assumption) | assumption)) (of_decide_eq_true (by first | (with_reducible assumption) | assumption)) HC0.out; have HR331 := Aside0.mk (Kd.C_of_reads (h1 := fun _ => rfl) (hA40 _ (Kd.reads_of_C HR0.out))); have HC331 := Aside0.mk hC40; clear hA40 hC40 hi040 hsz40) | ((with_reducible refine gate_builtin (b := .append) (xs := #[.tmp 113, .tmp 119]) rfl ?_); (try (refine gate_guard (by rfl) ?_; dsimp only)); at_builtin; refine Kd.R_append_rows (Kd.int .u8) (w0 := w) w.heap.size rfl (.tmp 113) (.tmp 119) 31 5 (.int .u8 0) 1 rfl Try.underlying31 info5 rfl (by decide) (by omega) u16 x16_4 ((l0.take ((wrap64 ((ji35) + a1)) : Int).toNat).drop ((ji35) : Int).toNat) _ _ _ (fun _ => True) (fun _ => False) rfl rfl ?aO ?aR (fun _ _ h => h) (fun _ h => h.elim) ?aF ?aB ?aS ?aL ?_; (case aR => first | (rw [← show ((l0.take ((wrap64 ((ji35) + a1)) : Int).toNat).drop ((ji35) : Int).toNat).length = ((wrap64 ((ji35) + a1)).toNat - (ji35).toNat) from (by rw [List.length_drop, List.length_take]; have h_ : ((wrap64 ((ji35) + a1)) : Int) ≤ (l0.length : Int) := of_decide_eq_true (by first | (with_reducible assumption) | assumption); omega)]; repeat (first | exact (Kd.C_below HR331.out (by repeat (first | (with_reducible first | exact HB.out | apply below_alloc | apply pw_below_drewN | apply below_drew1) | exact HB.out))) | (with_reducible refine Kd.C_alloc ?_ _) | (with_reducible refine Kd.C_drewN ?_ _) | (with_reducible refine Kd.C_drew ?_))) | (repeat (first | exact (Kd.C_below HR331.out (by repeat (first | (with_reducible first | exact HB.out | apply below_alloc | apply pw_below_drewN | apply below_drew1) | exact HB.out))) | (with_reducible refine Kd.C_alloc ?_ _) | (with_reducible refine Kd.C_drewN ?_ _) | (with_reducible refine Kd.C_drew ?_)))); (case aB => exact (by repeat (first | (with_reducible first | exact HB.out | apply below_alloc | apply pw_below_drewN | apply below_drew1) | exact HB.out))); (case aF => exact (fun _ _ => trivial)); (case aO => exact (by (with_reducible repeat (first | apply Kd.R_alloc | apply Kd.R_drewN | apply Kd.R_drew)); exact HO_16.out)); (case aS => exact (below_size (by repeat (first | (with_reducible first | exact HB.out | apply below_alloc | apply pw_below_drewN | apply below_drew1) | exact HB.out)))); (case aL => have := LMc39.out; have hlx_ := (show ((l0.take ((wrap64 ((ji35) + a1)) : Int).toNat).drop ((ji35) : Int).toNat).length = ((wrap64 ((ji35) + a1)).toNat - (ji35).toNat) from (by rw [List.length_drop, List.length_take]; have h_ : ((wrap64 ((ji35) + a1)) : Int) ≤ (l0.length : Int) := of_decide_eq_true (by first | (with_reducible assumption) | assumption); omega)); omega); intro v333 w41 ho hb hg hat; rw [← Ny332.out] at ho; have n0_ := Aside0.mk (Kd.N_afterv (ok := (fun _ => True)) (by (with_reducible repeat (first | apply Kd.N_alloc | apply Kd.N_drewN | apply Kd.N_drew)); exact Kd.N_mono HO_17.out (fun _ hk => ⟨trivial, hk⟩)) hg hat); have n1_ := Aside0.mk (Kd.V_afterv (ok := (fun k_ => some k_ ≠ (.slice (some ad329) t323.length co24 : Value).ownBlock)) (by (with_reducible repeat (first | apply Kd.V_alloc | apply Kd.V_drewN | apply Kd.V_drew)); exact Kd.V_mono HL329_0.out (fun _ hk => ⟨hk.2, hk.1⟩)) hg hat); have n2_ := Aside0.mk (hb); have n3_ := Aside0.mk (ho); clear HO_17; clear HL329_0; clear HB; clear HO_16; have HO_17 := n0_; have HL329_0 := n1_; have HB := n2_; have HO334 := n3_; clear n0_ n1_ n2_ n3_; clear ho hb hg hat))
                                                    repeat (go_quiet (first | (go_at_call 47; (with_reducible refine (slabvaultref12_Place.calls k5 _ _ l2 _ _ (rd_L1 t323 x18_4) t330 _ ?side1 ?side2 ?side3 ?side4 A34.out).mono ?_); (case side1 => repeat (first | exact (Kd.C_below HR2.out HB.out) | (with_reducible refine Kd.C_alloc ?_ _) | (with_reducible refine Kd.C_drewN ?_ _) | (with_reducible refine Kd.C_drew ?_))); (case side2 => exact HC2.out); (case side3 => repeat (first | exact (by repeat (first | (with_reducible exact HR329_0.out) | (with_reducible refine Kd.C_alloc ?_ _) | (with_reducible refine Kd.C_drewN ?_ _) | (with_reducible refine Kd.C_drew ?_) | exact HR329_0.out)) | (with_reducible refine Kd.C_alloc ?_ _) | (with_reducible refine Kd.C_drewN ?_ _) | (with_reducible refine Kd.C_drew ?_))); (case side4 => exact HC329_0.out); rintro e w' ⟨rfl, ⟨nd, rfl⟩⟩; (try first | exact ⟨rfl, _, World.drewN_drewN _ _ _⟩ | exact ⟨rfl, _, Eq.trans (World.drewN_drewN _ _ _) (congrArg (World.drewN _) (Nat.add_assoc _ _ _))⟩); obtain ⟨i040, hi040, _, hsz40, _⟩ := info_parts info5; obtain ⟨A40, hcut40, hA40, hC40⟩ := print_mid_of (P := Try.prog) (Value.int .u8) 0 31 5 .i64 .i64 Try.underlying31 hi040 hsz40 A0 c0 l0 (ji35) (wrap64 ((ji35) + a1)) (of_decide_eq_true (by first | (with_reducible assumption) | assumption)) (by first | omega | exact of_decide_eq_true (by first | (with_reducible assumption) | assumption)) (of_decide_eq_true (by first | (with_reducible assumption) | assumption)) HC0.out; have HR331 := Aside0.mk (Kd.C_of_reads (h1 := fun _ => rfl) (hA40 _ (Kd.reads_of_C HR0.out))); have HC331 := Aside0.mk hC40; clear hA40 hC40 hi040 hsz40) | ((with_reducible refine gate_builtin (b := .append) (xs := #[.tmp 113, .tmp 119]) rfl ?_); (try (refine gate_guard (by rfl) ?_; dsimp only)); at_builtin; refine Kd.R_append_rows (Kd.int .u8) (w0 := w) w.heap.size rfl (.tmp 113) (.tmp 119) 31 5 (.int .u8 0) 1 rfl Try.underlying31 info5 rfl (by decide) (by omega) u16 x16_4 ((l0.take ((wrap64 ((ji35) + a1)) : Int).toNat).drop ((ji35) : Int).toNat) _ _ _ (fun _ => True) (fun _ => False) rfl rfl ?aO ?aR (fun _ _ h => h) (fun _ h => h.elim) ?aF ?aB ?aS ?aL ?_; (case aR => first | (rw [← show ((l0.take ((wrap64 ((ji35) + a1)) : Int).toNat).drop ((ji35) : Int).toNat).length = ((wrap64 ((ji35) + a1)).toNat - (ji35).toNat) from (by rw [List.length_drop, List.length_take]; have h_ : ((wrap64 ((ji35) + a1)) : Int) ≤ (l0.length : Int) := of_decide_eq_true (by first | (with_reducible assumption) | assumption); omega)]; repeat (first | exact (Kd.C_below HR331.out (by repeat (first | (with_reducible first | exact HB.out | apply below_alloc | apply pw_below_drewN | apply below_drew1) | exact HB.out))) | (with_reducible refine Kd.C_alloc ?_ _) | (with_reducible refine Kd.C_drewN ?_ _) | (with_reducible refine Kd.C_drew ?_))) | (repeat (first | exact (Kd.C_below HR331.out (by repeat (first | (with_reducible first | exact HB.out | apply below_alloc | apply pw_below_drewN | apply below_drew1) | exact HB.out))) | (with_reducible refine Kd.C_alloc ?_ _) | (with_reducible refine Kd.C_drewN ?_ _) | (with_reducible refine Kd.C_drew ?_)))); (case aB => exact (by repeat (first | (with_reducible first | exact HB.out | apply below_alloc | apply pw_below_drewN | apply below_drew1) | exact HB.out))); (case aF => exact (fun _ _ => trivial)); (case aO => exact (by (with_reducible repeat (first | apply Kd.R_alloc | apply Kd.R_drewN | apply Kd.R_drew)); exact HO_16.out)); (case aS => exact (below_size (by repeat (first | (with_reducible first | exact HB.out | apply below_alloc | apply pw_below_drewN | apply below_drew1) | exact HB.out)))); (case aL => have := LMc39.out; have hlx_ := (show ((l0.take ((wrap64 ((ji35) + a1)) : Int).toNat).drop ((ji35) : Int).toNat).length = ((wrap64 ((ji35) + a1)).toNat - (ji35).toNat) from (by rw [List.length_drop, List.length_take]; have h_ : ((wrap64 ((ji35) + a1)) : Int) ≤ (l0.length : Int) := of_decide_eq_true (by first | (with_reducible assumption) | assumption); omega)); omega); intro v333 w41 ho hb hg hat; rw [← Ny332.out] at ho; have n0_ := Aside0.mk (Kd.N_afterv (ok := (fun _ => True)) (by (with_reducible repeat (first | apply Kd.N_alloc | apply Kd.N_drewN | apply Kd.N_drew)); exact Kd.N_mono HO_17.out (fun _ hk => ⟨trivial, hk⟩)) hg hat); have n1_ := Aside0.mk (Kd.V_afterv (ok := (fun k_ => some k_ ≠ (.slice (some ad329) t323.length co24 : Value).ownBlock)) (by (with_reducible repeat (first | apply Kd.V_alloc | apply Kd.V_drewN | apply Kd.V_drew)); exact Kd.V_mono HL329_0.out (fun _ hk => ⟨hk.2, hk.1⟩)) hg hat); have n2_ := Aside0.mk (hb); have n3_ := Aside0.mk (ho); clear HO_17; clear HL329_0; clear HB; clear HO_16; have HO_17 := n0_; have HL329_0 := n1_; have HB := n2_; have HO334 := n3_; clear n0_ n1_ n2_ n3_; clear ho hb hg hat)); try go_wp2_with (first | (go_at_call 47; (with_reducible refine (slabvaultref12_Place.calls k5 _ _ l2 _ _ (rd_L1 t323 x18_4) t330 _ ?side1 ?side2 ?side3 ?side4 A34.out).mono ?_); (case side1 => repeat (first | exact (Kd.C_below HR2.out HB.out) | (with_reducible refine Kd.C_alloc ?_ _) | (with_reducible refine Kd.C_drewN ?_ _) | (with_reducible refine Kd.C_drew ?_))); (case side2 => exact HC2.out); (case side3 => repeat (first | exact (by repeat (first | (with_reducible exact HR329_0.out) | (with_reducible refine Kd.C_alloc ?_ _) | (with_reducible refine Kd.C_drewN ?_ _) | (with_reducible refine Kd.C_drew ?_) | exact HR329_0.out)) | (with_reducible refine Kd.C_alloc ?_ _) | (with_reducible refine Kd.C_drewN ?_ _) | (with_reducible refine Kd.C_drew ?_))); (case side4 => exact HC329_0.out); rintro e w' ⟨rfl, ⟨nd, rfl⟩⟩; (try first | exact ⟨rfl, _, World.drewN_drewN _ _ _⟩ | exact ⟨rfl, _, Eq.trans (World.drewN_drewN _ _ _) (congrArg (World.drewN _) (Nat.add_assoc _ _ _))⟩); obtain ⟨i040, hi040, _, hsz40, _⟩ := info_parts info5; obtain ⟨A40, hcut40, hA40, hC40⟩ := print_mid_of (P := Try.prog) (Value.int .u8) 0 31 5 .i64 .i64 Try.underlying31 hi040 hsz40 A0 c0 l0 (ji35) (wrap64 ((ji35) + a1)) (of_decide_eq_true (by first | (with_reducible assumption) | assumption)) (by first | omega | exact of_decide_eq_true (by first | (with_reducible assumption) | assumption)) (of_decide_eq_true (by first | (with_reducible assumption) | assumption)) HC0.out; have HR331 := Aside0.mk (Kd.C_of_reads (h1 := fun _ => rfl) (hA40 _ (Kd.reads_of_C HR0.out))); have HC331 := Aside0.mk hC40; clear hA40 hC40 hi040 hsz40) | ((with_reducible refine gate_builtin (b := .append) (xs := #[.tmp 113, .tmp 119]) rfl ?_); (try (refine gate_guard (by rfl) ?_; dsimp only)); at_builtin; refine Kd.R_append_rows (Kd.int .u8) (w0 := w) w.heap.size rfl (.tmp 113) (.tmp 119) 31 5 (.int .u8 0) 1 rfl Try.underlying31 info5 rfl (by decide) (by omega) u16 x16_4 ((l0.take ((wrap64 ((ji35) + a1)) : Int).toNat).drop ((ji35) : Int).toNat) _ _ _ (fun _ => True) (fun _ => False) rfl rfl ?aO ?aR (fun _ _ h => h) (fun _ h => h.elim) ?aF ?aB ?aS ?aL ?_; (case aR => first | (rw [← show ((l0.take ((wrap64 ((ji35) + a1)) : Int).toNat).drop ((ji35) : Int).toNat).length = ((wrap64 ((ji35) + a1)).toNat - (ji35).toNat) from (by rw [List.length_drop, List.length_take]; have h_ : ((wrap64 ((ji35) + a1)) : Int) ≤ (l0.length : Int) := of_decide_eq_true (by first | (with_reducible assumption) | assumption); omega)]; repeat (first | exact (Kd.C_below HR331.out (by repeat (first | (with_reducible first | exact HB.out | apply below_alloc | apply pw_below_drewN | apply below_drew1) | exact HB.out))) | (with_reducible refine Kd.C_alloc ?_ _) | (with_reducible refine Kd.C_drewN ?_ _) | (with_reducible refine Kd.C_drew ?_))) | (repeat (first | exact (Kd.C_below HR331.out (by repeat (first | (with_reducible first | exact HB.out | apply below_alloc | apply pw_below_drewN | apply below_drew1) | exact HB.out))) | (with_reducible refine Kd.C_alloc ?_ _) | (with_reducible refine Kd.C_drewN ?_ _) | (with_reducible refine Kd.C_drew ?_)))); (case aB => exact (by repeat (first | (with_reducible first | exact HB.out | apply below_alloc | apply pw_below_drewN | apply below_drew1) | exact HB.out))); (case aF => exact (fun _ _ => trivial)); (case aO => exact (by (with_reducible repeat (first | apply Kd.R_alloc | apply Kd.R_drewN | apply Kd.R_drew)); exact HO_16.out)); (case aS => exact (below_size (by repeat (first | (with_reducible first | exact HB.out | apply below_alloc | apply pw_below_drewN | apply below_drew1) | exact HB.out)))); (case aL => have := LMc39.out; have hlx_ := (show ((l0.take ((wrap64 ((ji35) + a1)) : Int).toNat).drop ((ji35) : Int).toNat).length = ((wrap64 ((ji35) + a1)).toNat - (ji35).toNat) from (by rw [List.length_drop, List.length_take]; have h_ : ((wrap64 ((ji35) + a1)) : Int) ≤ (l0.length : Int) := of_decide_eq_true (by first | (with_reducible assumption) | assumption); omega)); omega); intro v333 w41 ho hb hg hat; rw [← Ny332.out] at ho; have n0_ := Aside0.mk (Kd.N_afterv (ok := (fun _ => True)) (by (with_reducible repeat (first | apply Kd.N_alloc | apply Kd.N_drewN | apply Kd.N_drew)); exact Kd.N_mono HO_17.out (fun _ hk => ⟨trivial, hk⟩)) hg hat); have n1_ := Aside0.mk (Kd.V_afterv (ok := (fun k_ => some k_ ≠ (.slice (some ad329) t323.length co24 : Value).ownBlock)) (by (with_reducible repeat (first | apply Kd.V_alloc | apply Kd.V_drewN | apply Kd.V_drew)); exact Kd.V_mono HL329_0.out (fun _ hk => ⟨hk.2, hk.1⟩)) hg hat); have n2_ := Aside0.mk (hb); have n3_ := Aside0.mk (ho); clear HO_17; clear HL329_0; clear HB; clear HO_16; have HO_17 := n0_; have HL329_0 := n1_; have HB := n2_; have HO334 := n3_; clear n0_ n1_ n2_ n3_; clear ho hb hg hat)))
                                                    go_roundg k5
                                                    case measure => have := HJ9.out; have := HJ13.out; have := HJ16.out; have := HK4.out; have := HK5.out; omega
                                                    case rel => exact ⟨(y332), (wrap64 (x18_4 + 1)), (by first | rfl | (simp; done) | (simp [*]; done)), H', ⟨by have := HJ9.out; have := HJ13.out; have := HJ16.out; have := HK4.out; have := HK5.out; omega⟩, ⟨by (with_reducible repeat (first | apply Kd.R_alloc | apply Kd.R_drewN | apply Kd.R_drew)); exact HO334.out⟩, ⟨by (with_reducible repeat (first | apply Kd.N_alloc | apply Kd.N_drewN | apply Kd.N_drew)); exact Kd.N_mono HO_17.out (fun _ hk => hk.2)⟩, ⟨by repeat (first | (with_reducible first | exact HB.out | apply below_alloc | apply pw_below_drewN | apply below_drew1) | exact HB.out)⟩⟩
                                                  · rw [if_neg c39] at H
                                                    exact absurd H (by simp)
                                                · rw [if_neg c38] at H
                                                  exact absurd H (by simp)
                                              · rw [if_neg c37] at H
                                                exact absurd H (by simp)
                                            · rw [if_neg c36] at H
                                              exact absurd H (by simp)
                                          · rw [if_neg c33] at H
                                            exact absurd H (by simp)
                                        · rw [if_neg c32] at H
                                          exact absurd H (by simp)
                                      · replace c31 := Bool.eq_false_iff.mpr c31
                                        subst c31
                                        have H1 : (if x16_4.length + l4.length < 140737488355328 then (slabvaultref13_Resize.l0 k5 l0 a1 l2 l4 (x16_4 ++ l4) t323 (wrap64 (x18_4 + 1))) else (none)) = some (r1, r2) := by rw [if_neg (show ¬ (false = true) by decide)] at H; exact H
                                        clear H
                                        have H := H1
                                        clear H1
                                        by_cases c42 : x16_4.length + l4.length < 140737488355328
                                        · rw [if_pos c42] at H
                                          have LMc42 := Aside0.mk c42
                                          clear c42
                                          obtain ⟨y335, hy335⟩ : ∃ y_ : List Int, y_ = (x16_4 ++ l4) := ⟨_, rfl⟩
                                          replace H : (slabvaultref13_Resize.l0 k5 l0 a1 l2 l4 y335 t323 (wrap64 (x18_4 + 1))) = some (r1, r2) := by first | (rw [hy335]; with_reducible exact H) | (have H2_ := (Option.bind_some _ _).symm.trans H; rw [hy335]; with_reducible exact H2_) | (have H2_ := (Option.bind_some _ _).symm.trans H; with_reducible exact H2_) | with_reducible exact H | (rw [hy335]; exact H) | exact H
                                          have Ny335 := Aside0.mk hy335
                                          clear hy335
                                          have H' := Aside0.mk H
                                          clear H
                                          go_wp2_with (first | ((with_reducible refine gate_builtin (b := .append) (xs := #[.tmp 121, .tmp 122]) rfl ?_); (try (refine gate_guard (by rfl) ?_; dsimp only)); at_builtin; refine Kd.R_append_rows (Kd.int .u8) (w0 := w) w.heap.size rfl (.tmp 121) (.tmp 122) 31 5 (.int .u8 0) 1 rfl Try.underlying31 info5 rfl (by decide) (by omega) u16 x16_4 l4 _ _ _ (fun _ => True) (fun _ => False) rfl rfl ?aO ?aR (fun _ _ h => h) (fun _ h => h.elim) ?aF ?aB ?aS ?aL ?_; (case aR => repeat (first | exact (Kd.C_below HR4.out HB.out) | (with_reducible refine Kd.C_alloc ?_ _) | (with_reducible refine Kd.C_drewN ?_ _) | (with_reducible refine Kd.C_drew ?_))); (case aB => exact (by repeat (first | (with_reducible first | exact HB.out | apply below_alloc | apply pw_below_drewN | apply below_drew1) | exact HB.out))); (case aF => exact (fun _ _ => trivial)); (case aO => exact (by (with_reducible repeat (first | apply Kd.R_alloc | apply Kd.R_drewN | apply Kd.R_drew)); exact HO_16.out)); (case aS => exact (below_size (by repeat (first | (with_reducible first | exact HB.out | apply below_alloc | apply pw_below_drewN | apply below_drew1) | exact HB.out)))); (case aL => have := LMc42.out; omega); intro v336 w43 ho hb hg hat; rw [← Ny335.out] at ho; have n0_ := Aside0.mk (Kd.N_afterv (ok := (fun _ => True)) (by (with_reducible repeat (first | apply Kd.N_alloc | apply Kd.N_drewN | apply Kd.N_drew)); exact Kd.N_mono HO_17.out (fun _ hk => ⟨trivial, hk⟩)) hg hat); have n1_ := Aside0.mk (hb); have n2_ := Aside0.mk (ho); clear HO_17; clear HB; clear HO_16; have HO_17 := n0_; have HB := n1_; have HO337 := n2_; clear n0_ n1_ n2_; clear ho hb hg hat))
                                          repeat (go_quiet (first | ((with_reducible refine gate_builtin (b := .append) (xs := #[.tmp 121, .tmp 122]) rfl ?_); (try (refine gate_guard (by rfl) ?_; dsimp only)); at_builtin; refine Kd.R_append_rows (Kd.int .u8) (w0 := w) w.heap.size rfl (.tmp 121) (.tmp 122) 31 5 (.int .u8 0) 1 rfl Try.underlying31 info5 rfl (by decide) (by omega) u16 x16_4 l4 _ _ _ (fun _ => True) (fun _ => False) rfl rfl ?aO ?aR (fun _ _ h => h) (fun _ h => h.elim) ?aF ?aB ?aS ?aL ?_; (case aR => repeat (first | exact (Kd.C_below HR4.out HB.out) | (with_reducible refine Kd.C_alloc ?_ _) | (with_reducible refine Kd.C_drewN ?_ _) | (with_reducible refine Kd.C_drew ?_))); (case aB => exact (by repeat (first | (with_reducible first | exact HB.out | apply below_alloc | apply pw_below_drewN | apply below_drew1) | exact HB.out))); (case aF => exact (fun _ _ => trivial)); (case aO => exact (by (with_reducible repeat (first | apply Kd.R_alloc | apply Kd.R_drewN | apply Kd.R_drew)); exact HO_16.out)); (case aS => exact (below_size (by repeat (first | (with_reducible first | exact HB.out | apply below_alloc | apply pw_below_drewN | apply below_drew1) | exact HB.out)))); (case aL => have := LMc42.out; omega); intro v336 w43 ho hb hg hat; rw [← Ny335.out] at ho; have n0_ := Aside0.mk (Kd.N_afterv (ok := (fun _ => True)) (by (with_reducible repeat (first | apply Kd.N_alloc | apply Kd.N_drewN | apply Kd.N_drew)); exact Kd.N_mono HO_17.out (fun _ hk => ⟨trivial, hk⟩)) hg hat); have n1_ := Aside0.mk (hb); have n2_ := Aside0.mk (ho); clear HO_17; clear HB; clear HO_16; have HO_17 := n0_; have HB := n1_; have HO337 := n2_; clear n0_ n1_ n2_; clear ho hb hg hat)); try go_wp2_with (first | ((with_reducible refine gate_builtin (b := .append) (xs := #[.tmp 121, .tmp 122]) rfl ?_); (try (refine gate_guard (by rfl) ?_; dsimp only)); at_builtin; refine Kd.R_append_rows (Kd.int .u8) (w0 := w) w.heap.size rfl (.tmp 121) (.tmp 122) 31 5 (.int .u8 0) 1 rfl Try.underlying31 info5 rfl (by decide) (by omega) u16 x16_4 l4 _ _ _ (fun _ => True) (fun _ => False) rfl rfl ?aO ?aR (fun _ _ h => h) (fun _ h => h.elim) ?aF ?aB ?aS ?aL ?_; (case aR => repeat (first | exact (Kd.C_below HR4.out HB.out) | (with_reducible refine Kd.C_alloc ?_ _) | (with_reducible refine Kd.C_drewN ?_ _) | (with_reducible refine Kd.C_drew ?_))); (case aB => exact (by repeat (first | (with_reducible first | exact HB.out | apply below_alloc | apply pw_below_drewN | apply below_drew1) | exact HB.out))); (case aF => exact (fun _ _ => trivial)); (case aO => exact (by (with_reducible repeat (first | apply Kd.R_alloc | apply Kd.R_drewN | apply Kd.R_drew)); exact HO_16.out)); (case aS => exact (below_size (by repeat (first | (with_reducible first | exact HB.out | apply below_alloc | apply pw_below_drewN | apply below_drew1) | exact HB.out)))); (case aL => have := LMc42.out; omega); intro v336 w43 ho hb hg hat; rw [← Ny335.out] at ho; have n0_ := Aside0.mk (Kd.N_afterv (ok := (fun _ => True)) (by (with_reducible repeat (first | apply Kd.N_alloc | apply Kd.N_drewN | apply Kd.N_drew)); exact Kd.N_mono HO_17.out (fun _ hk => ⟨trivial, hk⟩)) hg hat); have n1_ := Aside0.mk (hb); have n2_ := Aside0.mk (ho); clear HO_17; clear HB; clear HO_16; have HO_17 := n0_; have HB := n1_; have HO337 := n2_; clear n0_ n1_ n2_; clear ho hb hg hat)))
                                          go_roundg k5
                                          case measure => have := HJ9.out; have := HJ13.out; have := HJ16.out; have := HK4.out; have := HK5.out; omega
                                          case rel => exact ⟨(y335), (wrap64 (x18_4 + 1)), (by first | rfl | (simp; done) | (simp [*]; done)), H', ⟨by have := HJ9.out; have := HJ13.out; have := HJ16.out; have := HK4.out; have := HK5.out; omega⟩, ⟨by (with_reducible repeat (first | apply Kd.R_alloc | apply Kd.R_drewN | apply Kd.R_drew)); exact HO337.out⟩, ⟨by (with_reducible repeat (first | apply Kd.N_alloc | apply Kd.N_drewN | apply Kd.N_drew)); exact Kd.N_mono HO_17.out (fun _ hk => hk.2)⟩, ⟨by repeat (first | (with_reducible first | exact HB.out | apply below_alloc | apply pw_below_drewN | apply below_drew1) | exact HB.out)⟩⟩
                                        · rw [if_neg c42] at H
                                          exact absurd H (by simp)
                              · rw [if_neg c23] at H
                                have c23b0 : decide (x18_4 < (t323.length : Int)) = false := decide_eq_false c23
                                clear c23
                                simp only [Option.some.injEq, Prod.mk.injEq] at H
                                obtain ⟨rfl, rfl⟩ := H
                                obtain ⟨Ao44, co44, eo44⟩ := Kd.N_slice HO_17.out
                                subst eo44
                                go_wp2
                                repeat (go_quiet (fail); try go_wp2)
                                go_ret2
                                exact ⟨_, by first | rfl | (simp [errW_none, errW_some] <;> rfl) | (simp [*, errW_none, errW_some] <;> rfl), by (with_reducible repeat (first | apply Kd.R_alloc | apply Kd.R_drewN | apply Kd.R_drew)); exact HO_16.out, by repeat (first | (with_reducible first | exact HB.out | apply below_alloc | apply pw_below_drewN | apply below_drew1) | exact HB.out)⟩
    · rw [if_neg c9] at H
      have c9b0 : (t322 == 0) = false := beq_eq_false_iff_ne.mpr c9
      have c9b1 : (t322 != 0) = true := bne_iff_ne.mpr c9
      simp only [Option.some.injEq, Prod.mk.injEq] at H
      obtain ⟨rfl, rfl⟩ := H
      go_enter Try.func22, Try.ntmps22
      go_wp2_with (first | (go_at_call 24; (with_reducible refine (slabvaultref12_Elements.calls k _ _ l2 t319 t320 _ ?side1 ?side2 A6.out).mono ?_); (case side1 => repeat (first | exact HR2.out | (with_reducible refine Kd.C_alloc ?_ _) | (with_reducible refine Kd.C_drewN ?_ _) | (with_reducible refine Kd.C_drew ?_))); (case side2 => exact HC2.out); rintro e w' ⟨rfl, ⟨nd, rfl⟩⟩; (try first | exact ⟨rfl, _, World.drewN_drewN _ _ _⟩ | exact ⟨rfl, _, Eq.trans (World.drewN_drewN _ _ _) (congrArg (World.drewN _) (Nat.add_assoc _ _ _))⟩)) | (go_at_call 24; (with_reducible refine (slabvaultref12_Elements.calls k _ _ l3 t321 t322 _ ?side1 ?side2 A8.out).mono ?_); (case side1 => repeat (first | exact HR3.out | (with_reducible refine Kd.C_alloc ?_ _) | (with_reducible refine Kd.C_drewN ?_ _) | (with_reducible refine Kd.C_drew ?_))); (case side2 => exact HC3.out); rintro e w' ⟨rfl, ⟨nd, rfl⟩⟩; (try first | exact ⟨rfl, _, World.drewN_drewN _ _ _⟩ | exact ⟨rfl, _, Eq.trans (World.drewN_drewN _ _ _) (congrArg (World.drewN _) (Nat.add_assoc _ _ _))⟩)))
      repeat (go_quiet (first | (go_at_call 24; (with_reducible refine (slabvaultref12_Elements.calls k _ _ l2 t319 t320 _ ?side1 ?side2 A6.out).mono ?_); (case side1 => repeat (first | exact HR2.out | (with_reducible refine Kd.C_alloc ?_ _) | (with_reducible refine Kd.C_drewN ?_ _) | (with_reducible refine Kd.C_drew ?_))); (case side2 => exact HC2.out); rintro e w' ⟨rfl, ⟨nd, rfl⟩⟩; (try first | exact ⟨rfl, _, World.drewN_drewN _ _ _⟩ | exact ⟨rfl, _, Eq.trans (World.drewN_drewN _ _ _) (congrArg (World.drewN _) (Nat.add_assoc _ _ _))⟩)) | (go_at_call 24; (with_reducible refine (slabvaultref12_Elements.calls k _ _ l3 t321 t322 _ ?side1 ?side2 A8.out).mono ?_); (case side1 => repeat (first | exact HR3.out | (with_reducible refine Kd.C_alloc ?_ _) | (with_reducible refine Kd.C_drewN ?_ _) | (with_reducible refine Kd.C_drew ?_))); (case side2 => exact HC3.out); rintro e w' ⟨rfl, ⟨nd, rfl⟩⟩; (try first | exact ⟨rfl, _, World.drewN_drewN _ _ _⟩ | exact ⟨rfl, _, Eq.trans (World.drewN_drewN _ _ _) (congrArg (World.drewN _) (Nat.add_assoc _ _ _))⟩))); try go_wp2_with (first | (go_at_call 24; (with_reducible refine (slabvaultref12_Elements.calls k _ _ l2 t319 t320 _ ?side1 ?side2 A6.out).mono ?_); (case side1 => repeat (first | exact HR2.out | (with_reducible refine Kd.C_alloc ?_ _) | (with_reducible refine Kd.C_drewN ?_ _) | (with_reducible refine Kd.C_drew ?_))); (case side2 => exact HC2.out); rintro e w' ⟨rfl, ⟨nd, rfl⟩⟩; (try first | exact ⟨rfl, _, World.drewN_drewN _ _ _⟩ | exact ⟨rfl, _, Eq.trans (World.drewN_drewN _ _ _) (congrArg (World.drewN _) (Nat.add_assoc _ _ _))⟩)) | (go_at_call 24; (with_reducible refine (slabvaultref12_Elements.calls k _ _ l3 t321 t322 _ ?side1 ?side2 A8.out).mono ?_); (case side1 => repeat (first | exact HR3.out | (with_reducible refine Kd.C_alloc ?_ _) | (with_reducible refine Kd.C_drewN ?_ _) | (with_reducible refine Kd.C_drew ?_))); (case side2 => exact HC3.out); rintro e w' ⟨rfl, ⟨nd, rfl⟩⟩; (try first | exact ⟨rfl, _, World.drewN_drewN _ _ _⟩ | exact ⟨rfl, _, Eq.trans (World.drewN_drewN _ _ _) (congrArg (World.drewN _) (Nat.add_assoc _ _ _))⟩))))
      go_ret2
      exact ⟨_, by first | rfl | (simp [errW_none, errW_some] <;> rfl) | (simp [*, errW_none, errW_some] <;> rfl), by first | exact Kd.R_nil _ _ _ _ _ | exact Kd.N_nil _ _ _ _ _ | exact Kd.V_nil _ _ _ _ _ | exact Kd.Q_nil _ _ _ _ _ | exact Kd.S_nil _ _ _ _ _, by repeat (first | (with_reducible first | exact HB.out | apply below_alloc | apply pw_below_drewN | apply below_drew1) | exact HB.out)⟩
  · rw [if_neg c7] at H
    have c7b0 : (t320 == 0) = false := beq_eq_false_iff_ne.mpr c7
    have c7b1 : (t320 != 0) = true := bne_iff_ne.mpr c7
    simp only [Option.some.injEq, Prod.mk.injEq] at H
    obtain ⟨rfl, rfl⟩ := H
    go_enter Try.func22, Try.ntmps22
    go_wp2_with (first | (go_at_call 24; (with_reducible refine (slabvaultref12_Elements.calls k _ _ l2 t319 t320 _ ?side1 ?side2 A6.out).mono ?_); (case side1 => repeat (first | exact HR2.out | (with_reducible refine Kd.C_alloc ?_ _) | (with_reducible refine Kd.C_drewN ?_ _) | (with_reducible refine Kd.C_drew ?_))); (case side2 => exact HC2.out); rintro e w' ⟨rfl, ⟨nd, rfl⟩⟩; (try first | exact ⟨rfl, _, World.drewN_drewN _ _ _⟩ | exact ⟨rfl, _, Eq.trans (World.drewN_drewN _ _ _) (congrArg (World.drewN _) (Nat.add_assoc _ _ _))⟩)))
    repeat (go_quiet (first | (go_at_call 24; (with_reducible refine (slabvaultref12_Elements.calls k _ _ l2 t319 t320 _ ?side1 ?side2 A6.out).mono ?_); (case side1 => repeat (first | exact HR2.out | (with_reducible refine Kd.C_alloc ?_ _) | (with_reducible refine Kd.C_drewN ?_ _) | (with_reducible refine Kd.C_drew ?_))); (case side2 => exact HC2.out); rintro e w' ⟨rfl, ⟨nd, rfl⟩⟩; (try first | exact ⟨rfl, _, World.drewN_drewN _ _ _⟩ | exact ⟨rfl, _, Eq.trans (World.drewN_drewN _ _ _) (congrArg (World.drewN _) (Nat.add_assoc _ _ _))⟩))); try go_wp2_with (first | (go_at_call 24; (with_reducible refine (slabvaultref12_Elements.calls k _ _ l2 t319 t320 _ ?side1 ?side2 A6.out).mono ?_); (case side1 => repeat (first | exact HR2.out | (with_reducible refine Kd.C_alloc ?_ _) | (with_reducible refine Kd.C_drewN ?_ _) | (with_reducible refine Kd.C_drew ?_))); (case side2 => exact HC2.out); rintro e w' ⟨rfl, ⟨nd, rfl⟩⟩; (try first | exact ⟨rfl, _, World.drewN_drewN _ _ _⟩ | exact ⟨rfl, _, Eq.trans (World.drewN_drewN _ _ _) (congrArg (World.drewN _) (Nat.add_assoc _ _ _))⟩))))
    go_ret2
    exact ⟨_, by first | rfl | (simp [errW_none, errW_some] <;> rfl) | (simp [*, errW_none, errW_some] <;> rfl), by first | exact Kd.R_nil _ _ _ _ _ | exact Kd.N_nil _ _ _ _ _ | exact Kd.V_nil _ _ _ _ _ | exact Kd.Q_nil _ _ _ _ _ | exact Kd.S_nil _ _ _ _ _, by repeat (first | (with_reducible first | exact HB.out | apply below_alloc | apply pw_below_drewN | apply below_drew1) | exact HB.out)⟩
end Go.Proofs.Ytjbjofmcmjojlab.Wk
end
section
namespace Go.Proofs.Ytjbjofmcmjojlab.Wk
open Go.RowKit Go.Proofs.YtjbjofmcmjojlabW.PrintWords Go.Proofs.YtjbjofmcmjojlabW.PrintLast Go.Proofs.YtjbjofmcmjojlabW.PrintMore
attribute [local go_sem] max2_int min2_int max_two min_two max_three min_three max_four min_four
set_option linter.unusedVariables false
set_option linter.unusedSimpArgs false
section
open Go.Proofs.YtjbjofmcmjojlabQ
set_option maxHeartbeats 4000000 in
set_option maxRecDepth 10000 in
theorem gridResizes_heavy (k : Nat) (A0 : Option Addr) (c0 : Nat) (X : List Int) (z : Int) (A2 : Option Addr) (c2 : Nat) (D : List Int) (A3 : Option Addr) (c3 : Nat) (H : List Int) (A4 : Option Addr) (c4 : Nat) (co : List Int) (A5 : Option Addr) (c5 : Nat) (L : List Int) (w : World)
    (hr0 : Kd.C (Kd.int .u8) w A0 X.length X) (hc0 : X.length ≤ c0) (hr2 : Kd.C (Kd.int .i64) w A2 D.length D) (hc2 : D.length ≤ c2) (hr3 : Kd.C (Kd.int .i64) w A3 H.length H) (hc3 : H.length ≤ c3)
    (hr4 : Kd.C (Kd.int .i64) w A4 co.length co) (hc4 : co.length ≤ c4) (hr5 : Kd.C (Kd.int .u8) w A5 L.length L) (hc5 : L.length ≤ c5) (hh : slabvaultlaw13_heavy.f k X z D H co L = some true) :
    Calls Try.prog 5 #[.agg #[.slice A0 X.length c0, .int .i64 z, .slice A2 D.length c2, .slice A3 H.length c3, .slice A4 co.length c4, .slice A5 L.length c5]] w fun E w' => E = .returned (.bool true) ∧ Below w.heap.size w w' := by
  have hu := Try.underlying33
  go_enter Try.func5, Try.ntmps5
  go_upto_region 1 with (first | ((with_reducible refine gate_dst (N := 1) rfl ?_); refine box_event ?hg (N := 1) ?hd (cs := #[.slice A0 X.length c0, .int .i64 z, .slice A2 D.length c2, .slice A3 H.length c3, .slice A4 co.length c4, .slice A5 L.length c5]) (t := 33) ?hr ?_; (case hd => rfl); (case hg => rfl); (case hr => first | (go_simp; done) | (go_simp; rfl)); intro b hg w1 hbox hb; have HBX := Aside0.mk hbox; have HB := Aside0.mk hb; clear hbox hb))
  subst hg
  have HCA := Aside0.mk (CaseAt.mk HBX.out (Kd.C_below hr0 HB.out) hc0 (Kd.C_below hr2 HB.out) hc2 (Kd.C_below hr3 HB.out) hc3 (Kd.C_below hr4 HB.out) hc4 (Kd.C_below hr5 HB.out) hc5)
  have HH := Aside0.mk hh
  clear hr0 hc0 hr2 hc2 hr3 hc3 hr4 hc4 hr5 hc5 HBX hh
  obtain ⟨b0, b1, b2, b3, b4, b5⟩ := caseAt_cells HCA.out
  go_upto_region 2 with (go_at_call 15; refine (slabvaultlaw13_heavy.calls k A0 c0 X z A2 c2 D A3 c3 H A4 c4 co A5 c5 L true _ HCA.out.r0 HCA.out.l0 HCA.out.r2 HCA.out.l2 HCA.out.r3 HCA.out.l3 HCA.out.r4 HCA.out.l4 HCA.out.r5 HCA.out.l5 HH.out).mono ?_; rintro e_ w2 ⟨rfl, hb⟩; have HB2 := Aside0.mk (below_step HB.out hb); have HC2 := Aside0.mk (caseAt_below HCA.out hb); clear hb)
  clear b0 b1 b2 b3 b4 b5
  clear HH HCA HB
  go_wp2_with (go_at_call 14; refine (slabvaultlaw13_lives.calls true _ rfl).mono ?_; rintro e_ w3 ⟨rfl, hb⟩; have HBE := Aside0.mk (below_step HB2.out hb); clear hb)
  go_ret
  exact ⟨rfl, HBE.out⟩
set_option maxHeartbeats 4000000 in
set_option maxRecDepth 10000 in
theorem gridResizes_light (k : Nat) (A0 : Option Addr) (c0 : Nat) (X : List Int) (z : Int) (A2 : Option Addr) (c2 : Nat) (D : List Int) (A3 : Option Addr) (c3 : Nat) (H : List Int) (A4 : Option Addr) (c4 : Nat) (co : List Int) (A5 : Option Addr) (c5 : Nat) (L : List Int) (w : World)
    (hr0 : Kd.C (Kd.int .u8) w A0 X.length X) (hc0 : X.length ≤ c0) (hr2 : Kd.C (Kd.int .i64) w A2 D.length D) (hc2 : D.length ≤ c2) (hr3 : Kd.C (Kd.int .i64) w A3 H.length H) (hc3 : H.length ≤ c3)
    (hr4 : Kd.C (Kd.int .i64) w A4 co.length co) (hc4 : co.length ≤ c4) (hr5 : Kd.C (Kd.int .u8) w A5 L.length L) (hc5 : L.length ≤ c5) (hh : slabvaultlaw13_heavy.f k X z D H co L = some false) (lX : X.length ≤ 10000) (lL : L.length ≤ 10000) (r : List Int) (e : Int) (h1 : grid_Resize.f k X z D H L = some (r, e)) (h2 : slabvaultref13_Resize.f k X z D H L = some (r, e)) :
    Calls Try.prog 5 #[.agg #[.slice A0 X.length c0, .int .i64 z, .slice A2 D.length c2, .slice A3 H.length c3, .slice A4 co.length c4, .slice A5 L.length c5]] w fun E w' => E = .returned (.bool true) ∧ Below w.heap.size w w' := by
  have H1 := Aside0.mk h1
  have H2 := Aside0.mk h2
  have LX := Aside0.mk lX
  have LL := Aside0.mk lL
  clear h1 h2 lX lL
  have hu := Try.underlying33
  go_enter Try.func5, Try.ntmps5
  go_upto_region 1 with (first | ((with_reducible refine gate_dst (N := 1) rfl ?_); refine box_event ?hg (N := 1) ?hd (cs := #[.slice A0 X.length c0, .int .i64 z, .slice A2 D.length c2, .slice A3 H.length c3, .slice A4 co.length c4, .slice A5 L.length c5]) (t := 33) ?hr ?_; (case hd => rfl); (case hg => rfl); (case hr => first | (go_simp; done) | (go_simp; rfl)); intro b hg w1 hbox hb; have HBX := Aside0.mk hbox; have HB := Aside0.mk hb; clear hbox hb))
  subst hg
  have HCA := Aside0.mk (CaseAt.mk HBX.out (Kd.C_below hr0 HB.out) hc0 (Kd.C_below hr2 HB.out) hc2 (Kd.C_below hr3 HB.out) hc3 (Kd.C_below hr4 HB.out) hc4 (Kd.C_below hr5 HB.out) hc5)
  have HH := Aside0.mk hh
  clear hr0 hc0 hr2 hc2 hr3 hc3 hr4 hc4 hr5 hc5 HBX hh
  obtain ⟨b0, b1, b2, b3, b4, b5⟩ := caseAt_cells HCA.out
  go_upto_region 3 with (go_at_call 15; refine (slabvaultlaw13_heavy.calls k A0 c0 X z A2 c2 D A3 c3 H A4 c4 co A5 c5 L false _ HCA.out.r0 HCA.out.l0 HCA.out.r2 HCA.out.l2 HCA.out.r3 HCA.out.l3 HCA.out.r4 HCA.out.l4 HCA.out.r5 HCA.out.l5 HH.out).mono ?_; rintro e_ w2 ⟨rfl, hb⟩; have HB2 := Aside0.mk (below_step HB.out hb); have HC2 := Aside0.mk (caseAt_below HCA.out hb); clear hb)
  clear b0 b1 b2 b3 b4 b5
  clear HH HCA HB
  have hS := (fun (W' : World) (hb : Below w2.heap.size w2 W') => show Below w2.heap.size w2 W' ∧ W'.cell? ⟨w.heap.size, 0, none⟩ = some (.slice A0 X.length c0) ∧ W'.cell? ⟨w.heap.size, 5, none⟩ = some (.slice A5 L.length c5) from ⟨hb, (caseAt_cells (caseAt_below HC2.out hb)).1, (caseAt_cells (caseAt_below HC2.out hb)).2.2.2.2.2⟩)
  have HS := Aside0.mk hS
  clear hS
  refine start_ (n := 8) (S := fun W' => Below w2.heap.size w2 W' ∧ W'.cell? ⟨w.heap.size, 0, none⟩ = some (.slice A0 X.length c0) ∧ W'.cell? ⟨w.heap.size, 5, none⟩ = some (.slice A5 L.length c5)) (ds := []) #[false, false, false, false, false, false, false, false] (by kernel_rfl) rfl rfl (HS.out _ (below_drew (Below.refl _ _))) (fun hHeld => ?_)
  refine pure_ (i := 0) (N := some 12) (v := ?_) (a' := ?_) #[true, false, false, false, false, false, false, false] rfl rfl (by kernel_rfl) (fun _ _ _ h => h) (Or.inl ⟨by rfl, ?_⟩) ?_ ?_
  rotate_left
  · intro w'
    go_simp
    with_reducible rfl
  rotate_left
  · simp only [Act.put, List.setIfInBounds_toArray, List.set_cons_zero, List.set_cons_succ, i64_w, i32_w]
    rfl
  refine pure_ (i := 3) (N := some 15) (v := ?_) (a' := ?_) #[true, false, false, true, false, false, false, false] rfl rfl (by kernel_rfl) (fun _ _ _ h => h) (Or.inl ⟨by rfl, ?_⟩) ?_ ?_
  rotate_left
  · intro w'
    go_simp
    with_reducible rfl
  rotate_left
  · simp only [Act.put, List.setIfInBounds_toArray, List.set_cons_zero, List.set_cons_succ, i64_w, i32_w]
    rfl
  refine take_ (i := 1) (N := some 13) (v := ?_) (a' := ?_) #[true, true, false, true, false, false, false, false] rfl rfl (by kernel_rfl) (fun _ _ _ h => h) (Or.inl ⟨by rfl, ?_⟩) hHeld ?_ ?_
  rotate_left
  · rintro w' ⟨hB_, h0_, h5_⟩
    go_simp
    with_reducible rfl
  rotate_left
  · simp only [Act.put, List.setIfInBounds_toArray, List.set_cons_zero, List.set_cons_succ, i64_w, i32_w]
    rfl
  refine take_ (i := 4) (N := some 16) (v := ?_) (a' := ?_) #[true, true, false, true, true, false, false, false] rfl rfl (by kernel_rfl) (fun _ _ _ h => h) (Or.inl ⟨by rfl, ?_⟩) hHeld ?_ ?_
  rotate_left
  · rintro w' ⟨hB_, h0_, h5_⟩
    go_simp
    with_reducible rfl
  rotate_left
  · simp only [Act.put, List.setIfInBounds_toArray, List.set_cons_zero, List.set_cons_succ, i64_w, i32_w]
    rfl
  refine one_ (i := 2) (N := some 14) #[true, true, true, true, true, false, false, false] rfl rfl (by kernel_rfl) (by decide) (fun K hK => ?_)
  skip
  refine goes_ Try.func16 (by kernel_rfl) rfl #[.slice A0 X.length c0] (by rfl) rfl rfl (by (simp only [List.map_toArray, List.map_cons, List.map_nil]); rfl) ?_
  refine (lent_calls A0 c0 X _ (caseAt_below HC2.out hHeld.1).r0 (caseAt_below HC2.out hHeld.1).l0 LX.out).mono ?_
  rintro e_ WL1 ⟨g1, k1, rfl, hk, hg, hbuf, hb⟩
  have LK1 := Aside0.mk hk
  have LG1 := Aside0.mk hg
  have LB1 := Aside0.mk hbuf
  have hBn := below_then hHeld.1 hHeld.1.size hb
  clear hk hg hbuf hb
  refine ⟨_, rfl, ?_⟩
  refine hK.out _ _ (HS.out _ hBn) (fun hHeld => ?_)
  clear hK K hBn
  refine norm_ (a' := ?_) ?_ ?_
  rotate_left
  · show Act.put _ (some 14) _ = _
    simp only [Act.put, List.setIfInBounds_toArray, List.set_cons_zero, List.set_cons_succ, i64_w, i32_w]
    rfl
  refine one_ (i := 5) (N := some 17) #[true, true, true, true, true, true, false, false] rfl rfl (by kernel_rfl) (by decide) (fun K hK => ?_)
  skip
  refine goes_ Try.func16 (by kernel_rfl) rfl #[.slice A5 L.length c5] (by rfl) rfl rfl (by (simp only [List.map_toArray, List.map_cons, List.map_nil]); rfl) ?_
  refine (lent_calls A5 c5 L _ (caseAt_below HC2.out hHeld.1).r5 (caseAt_below HC2.out hHeld.1).l5 LL.out).mono ?_
  rintro e_ WL2 ⟨g2, k2, rfl, hk, hg, hbuf, hb⟩
  have LK2 := Aside0.mk hk
  have LG2 := Aside0.mk hg
  have LB2 := Aside0.mk hbuf
  have hBn := below_then hHeld.1 hHeld.1.size hb
  have LB1' := Aside0.mk (LB1.out.below hb)
  have LG1' := Aside0.mk (show g1 < g2 from Nat.lt_of_lt_of_le LB1.out.lt hg)
  clear LB1
  clear hk hg hbuf hb
  refine ⟨_, rfl, ?_⟩
  refine hK.out _ _ (HS.out _ hBn) (fun hHeld => ?_)
  clear hK K hBn
  refine norm_ (a' := ?_) ?_ ?_
  rotate_left
  · show Act.put _ (some 17) _ = _
    simp only [Act.put, List.setIfInBounds_toArray, List.set_cons_zero, List.set_cons_succ, i64_w, i32_w]
    rfl
  refine pure_ (i := 6) (N := some 3) (v := ?_) (a' := ?_) #[true, true, true, true, true, true, true, false] rfl rfl (by kernel_rfl) (fun _ _ _ h => h) (Or.inl ⟨by rfl, ?_⟩) ?_ ?_
  rotate_left
  · intro w'
    go_simp
    with_reducible rfl
  rotate_left
  · simp only [Act.put, List.setIfInBounds_toArray, List.set_cons_zero, List.set_cons_succ, i64_w, i32_w]
    rfl
  refine pure_ (i := 7) (N := some 4) (v := ?_) (a' := ?_) #[true, true, true, true, true, true, true, true] rfl rfl (by kernel_rfl) (fun _ _ _ h => h) (Or.inl ⟨by rfl, ?_⟩) ?_ ?_
  rotate_left
  · intro w'
    go_simp
    with_reducible rfl
  rotate_left
  · simp only [Act.put, List.setIfInBounds_toArray, List.set_cons_zero, List.set_cons_succ, i64_w, i32_w]
    rfl
  refine done_ (by kernel_rfl) ?_
  have HB3 := Aside0.mk (below_then HB2.out HB2.out.size hHeld.1)
  have HC3 := Aside0.mk (caseAt_below HC2.out hHeld.1)
  clear hHeld HS HC2 HB2
  generalize WL2 = w3 at HB3 HC3 LB2 LB1' ⊢
  have CIN := Aside0.mk ((buf_init LB1'.out).C rfl)
  have COW := Aside0.mk ((buf_init LB2.out).C rfl)
  have HBL := Aside0.mk (Below.refl w3.heap.size w3)
  have HCN := Aside0.mk (caseAt_below HC3.out HBL.out)
  obtain ⟨b0, b1, b2, b3, b4, b5⟩ := caseAt_cells HCN.out
  go_upto_region 5 with (go_at_call 21; refine (grid_Resize.calls k (some ⟨g1, 0, none⟩) k1 X z A2 c2 D A3 c3 H (some ⟨g2, 0, none⟩) k2 L r e _ (Kd.C_below CIN.out HBL.out) (Nat.le_of_succ_le LK1.out) HCN.out.r2 HCN.out.l2 HCN.out.r3 HCN.out.l3 (Kd.C_below COW.out HBL.out) (Nat.le_of_succ_le LK2.out) H1.out).mono ?_; rintro e_ w4 ⟨v4, rfl, ho, hb⟩; obtain ⟨q4, ho, hq⟩ := ownB_at ho; obtain ⟨B4, d4, rfl, hd, hcx⟩ := ownAt_slice ho; have HO4 := Aside0.mk ho; have HQ4 := Aside0.mk hq; have HBW := Aside0.mk hb; clear ho hq hd hcx hb)
  have HBL2 := Aside0.mk (below_then HBL.out HBL.out.size HBW.out)
  have HQL4 := Aside0.mk (fun k_ hk => Nat.le_trans HBL.out.size (HQ4.out k_ hk).1)
  clear b0 b1 b2 b3 b4 b5
  clear HBL HCN
  have HBL := HBL2
  clear HBL2
  clear HBW
  have HCN := Aside0.mk (caseAt_below HC3.out HBL.out)
  obtain ⟨b0, b1, b2, b3, b4, b5⟩ := caseAt_cells HCN.out
  go_upto_region 6 with (go_at_call 22; refine (slabvaultref13_Resize.calls k A0 c0 X z A2 c2 D A3 c3 H A5 c5 L r e _ HCN.out.r0 HCN.out.l0 HCN.out.r2 HCN.out.l2 HCN.out.r3 HCN.out.l3 HCN.out.r5 HCN.out.l5 H2.out).mono ?_; rintro e_ w6 ⟨v6, rfl, hv, hb⟩; obtain ⟨B6, d6, rfl⟩ := Kd.R_slice hv; have HV6 := Aside0.mk hv; have HBW := Aside0.mk hb; clear hv hb)
  have HBL2 := Aside0.mk (below_then HBL.out HBL.out.size HBW.out)
  clear b0 b1 b2 b3 b4 b5
  clear HBL HCN
  have HBL := HBL2
  clear HBL2
  have HO4' := Aside0.mk (ownAt_step HO4.out (fun k_ hk => HBW.out.block k_ (HQ4.out k_ hk).2))
  clear HO4
  have HO4 := HO4'
  clear HO4'
  have HQ46 := Aside0.mk (fun k_ (hk : q4 = some k_) => (HQ4.out k_ hk).2)
  have HCN := Aside0.mk (caseAt_below HC3.out HBL.out)
  obtain ⟨b0, b1, b2, b3, b4, b5⟩ := caseAt_cells HCN.out
  obtain ⟨_, _, hee, _, hcx⟩ := ownAt_slice HO4.out
  cases hee
  have hs1 := Kd.C_string (P := Try.prog) (A := B4) (c := d4) Try.underlying31 Try.underlying5 Try.underlying9 hcx
  have hs2 := Kd.C_string (P := Try.prog) (A := B6) (c := d6) Try.underlying31 Try.underlying5 Try.underlying9 (Kd.R_reads' HV6.out).2.2
  clear hcx
  generalize strOfNums r = sr at hs1 hs2
  go_upto_region 8 with (first | (go_at_call 19; (with_reducible refine (kept_calls g1 k1 A0 c0 X _ ?s1 ?s2 ?s3 ?s4 ?s5).mono ?_); (case s1 => exact LK1.out); (case s2 => exact LB1'.out.below HBL.out); (case s3 => exact HCN.out.r0); (case s4 => exact HCN.out.l0); (case s5 => exact LX.out); rintro e_ w' ⟨rfl, ⟨n7, rfl⟩⟩) | (go_at_call 19; (with_reducible refine (kept_calls g2 k2 A5 c5 L _ ?s1 ?s2 ?s3 ?s4 ?s5).mono ?_); (case s1 => exact LK2.out); (case s2 => exact ((LB2.out.below HBL.out).below (pw_below_drewN (Below.refl _ _) n7))); (case s3 => exact (Kd.C_drewN HCN.out.r5 n7)); (case s4 => exact HCN.out.l5); (case s5 => exact LL.out); rintro e_ w' ⟨rfl, ⟨n8, rfl⟩⟩))
  clear b0 b1 b2 b3 b4 b5
  clear hs1 hs2 HCN
  have hbd := pw_below_drewN (Below.refl w6.heap.size w6) (n7 + n8)
  have HBL2 := Aside0.mk (below_then HBL.out HBL.out.size hbd)
  have HO4' := Aside0.mk (ownAt_step HO4.out (fun k_ hk => hbd.block k_ (Nat.lt_of_lt_of_le (HQ46.out k_ hk) HBW.out.size)))
  have HV7 := Aside0.mk (Kd.R_drewN HV6.out (n7 + n8))
  clear HBL HO4 HV6 HBW hbd
  generalize w6.drewN (n7 + n8) = w7 at HBL2 HO4' HV7 ⊢
  go_upto_region 9 with (go_at_call 20; (with_reducible refine (spoil_calls q4 _ r _ ?s1).mono ?_); (case s1 => exact HO4'.out); rintro e_ w8 ⟨rfl, hg⟩; have HG := Aside0.mk hg; clear hg)
  have HBL := Aside0.mk (HBL2.out.grown HG.out HBL2.out.size (fun k_ hk => HQL4.out k_ hk))
  have HV8 := Aside0.mk (R_keep HV7.out (fun k_ hk hl => HG.out.block k_ hl (fun e => by have := HQ46.out k_ e.symm; omega)))
  have HCN := Aside0.mk (caseAt_below HC3.out HBL.out)
  obtain ⟨b0, b1, b2, b3, b4, b5⟩ := caseAt_cells HCN.out
  go_wp2_with (first | (go_at_call 19; (with_reducible refine (kept_calls g1 k1 A0 c0 X _ ?s1 ?s2 ?s3 ?s4 ?s5).mono ?_); (case s1 => exact LK1.out); (case s2 => exact LB1'.out.below HBL.out); (case s3 => exact HCN.out.r0); (case s4 => exact HCN.out.l0); (case s5 => exact LX.out); rintro e_ w' ⟨rfl, ⟨n7, rfl⟩⟩) | (go_at_call 19; (with_reducible refine (kept_calls g2 k2 A5 c5 L _ ?s1 ?s2 ?s3 ?s4 ?s5).mono ?_); (case s1 => exact LK2.out); (case s2 => exact ((LB2.out.below HBL.out).below (pw_below_drewN (Below.refl _ _) n7))); (case s3 => exact (Kd.C_drewN HCN.out.r5 n7)); (case s4 => exact HCN.out.l5); (case s5 => exact LL.out); rintro e_ w' ⟨rfl, ⟨n8, rfl⟩⟩) | (go_at_call 14; refine (slabvaultlaw13_lives.calls true _ rfl).mono ?_; rintro e_ w9 ⟨rfl, hb⟩; have HBE := Aside0.mk (below_step (pw_below_drewN (below_step HB3.out HBL.out) (n7 + n8)) hb); clear hb))
  go_ret
  exact ⟨rfl, HBE.out⟩
end
end Go.Proofs.Ytjbjofmcmjojlab.Wk
end
section
namespace Go.Proofs.Ytjbjofmcmjojlab.Wk
open Go.RowKit Go.Proofs.YtjbjofmcmjojlabW.PrintWords Go.Proofs.YtjbjofmcmjojlabW.PrintLast Go.Proofs.YtjbjofmcmjojlabW.PrintMore
attribute [local go_sem] max2_int min2_int max_two min_two max_three min_three max_four min_four
set_option linter.unusedVariables false
set_option linter.unusedSimpArgs false
def slabvaultlaw13_ints.l0 : Nat → List Int → List Int → Int → Option (Bool)
  | 0, _, _, _ => none
  | k + 1, x0, x1, x5 => if x5 < (x0.length : Int) then (if 0 ≤ x5 then (if x5 < (x1.length : Int) then (if (rd x0 x5) = (rd x1 x5) then (slabvaultlaw13_ints.l0 k x0 x1 (wrap64 (x5 + 1))) else (some false)) else (none)) else (none)) else (some true)
def slabvaultlaw13_ints.f (k : Nat) (l0 : List Int) (l1 : List Int) : Option (Bool) := if (l0.length : Int) = (l1.length : Int) then (slabvaultlaw13_ints.l0 k l0 l1 0) else (some false)
end Go.Proofs.Ytjbjofmcmjojlab.Wk
end
section
namespace Go.Proofs.Ytjbjofmcmjojlab.Wk
open Go.RowKit Go.Proofs.YtjbjofmcmjojlabW.PrintWords Go.Proofs.YtjbjofmcmjojlabW.PrintLast Go.Proofs.YtjbjofmcmjojlabW.PrintMore
attribute [local go_sem] max2_int min2_int max_two min_two max_three min_three max_four min_four
set_option linter.unusedVariables false
set_option linter.unusedSimpArgs false
def slabvaultref13_Fit.l0 : Nat → List Int → Int → Option (Int)
  | 0, _, _ => none
  | k + 1, x1, x7 => if x7 < (x1.length : Int) then (if 0 ≤ x7 then (if (rd x1 x7) < 1 then (some 2) else (if (rd x1 x7) > 1048576 then (some 2) else (slabvaultref13_Fit.l0 k x1 (wrap64 (x7 + 1))))) else (none)) else ((slabvaultref12_Elements.f k x1).bind fun bt147 => (some bt147.2))
def slabvaultref13_Fit.f (k : Nat) (l0 : List Int) (l1 : List Int) : Option (Int) := (slabvaultref12_Elements.f k l0).bind fun bt143 => (if bt143.2 = 0 then (if (l1.length : Int) = (l0.length : Int) then (slabvaultref13_Fit.l0 k l1 0) else (some 2)) else (some bt143.2))
end Go.Proofs.Ytjbjofmcmjojlab.Wk
end
