/- Written by a program of this session (lawwalk.py): the walk of the law FnExactBestLatePlan, where every answer on the way is known; the facts that it asks are those of the pure statement. -/
import Derived.Test.YtnojmhcmngejnaaQFnExactBestLatePlanx0
import Derived.Test.YtnojmhcmngejnaaQFnExactBestLatePlanx1
import Derived.Test.YtnojmhcmngejnaaQFnExactBestLatePlanx2
import Derived.Test.YtnojmhcmngejnaaQFnExactBestLatePlanx3
import Derived.Test.YtnojmhcmngejnaaQFnExactBestLatePlanx4
import Derived.Test.YtnojmhcmngejnaaQFnExactBestLatePlanx5
import Derived.Test.YtnojmhcmngejnaaQFnExactBestLatePlanx6
import Derived.Test.YtnojmhcmngejnaaQFnExactBestLatePlanx7
import Derived.Test.YtnojmhcmngejnaaHold
namespace Go.Proofs.Ytnojmhcmngejnaa.PFnExactBestLatePlan
open Go.RowKit Go.Proofs.YtnojmhcmngejnaaW.PrintWords Go.Proofs.YtnojmhcmngejnaaW.PrintLast Go.Proofs.YtnojmhcmngejnaaW.PrintMore Go.Proofs.Ytnojmhcmngejnaa.Hold
set_option linter.unusedVariables false
set_option linter.unusedSimpArgs false
/-- What the law's calls answer, the case not being too large. -/
def laws_FnExactBestLatePlan.Good (k : Nat) (l0_0 : List Int) (l0_1 : List Int) (l0_2 : List Int) (l0_3 : List Int) (l1 : List Int) : Prop := ∃ (q0 : Int) (R : List Int) (b : Bool) (k0 : Int) (ml0_0 : List Int) (ml0_1 : List Int) (ml0_2 : List Int) (ml0_3 : List Int) (k1 : Int) (ml1 : List Int) (m : Int) (mR : List Int), (¬ (l1.length : Int) > 1048576) ∧ (laws_szCase.f l0_0 l0_1 l0_2 l0_3 (1048576) = some q0) ∧ (0 ≤ q0) ∧ (laws_toCase.f k l0_0 l0_1 l0_2 l0_3 = some (l0_0, l0_1, l0_2, l0_3)) ∧ (laws_toIntS.f k l1 = some l1) ∧ (spec_BestLatePlan.f k l0_0 l0_1 l0_2 l0_3 l1 = some (R, b)) ∧ (impl_BestLatePlan.f k l0_0 l0_1 l0_2 l0_3 l1 = some (R, b)) ∧ (laws_eqIntS.f k R R = some true) ∧ (laws_eqCase.f k l0_0 l0_1 l0_2 l0_3 l0_0 l0_1 l0_2 l0_3 = some true) ∧ (laws_eqIntS.f k l1 l1 = some true) ∧ (laws_markCase.f k l0_0 l0_1 l0_2 l0_3 (1) = some (k0, ml0_0, ml0_1, ml0_2, ml0_3)) ∧ (0 ≤ k0) ∧ (laws_markIntS.f k l1 (k0) = some (k1, ml1)) ∧ (0 ≤ k1) ∧ (laws_markIntS.f k R 1 = some (m, mR)) ∧ (laws_heldIntS.f k mR 1 = some m) ∧ (0 ≤ m) ∧ (mR.length = R.length)
set_option maxHeartbeats 8000000 in
set_option maxRecDepth 100000 in
theorem laws_FnExactBestLatePlan.good (k : Nat) (A0_0 : Option Addr) (c0_0 : Nat) (l0_0 : List Int) (A0_1 : Option Addr) (c0_1 : Nat) (l0_1 : List Int) (A0_2 : Option Addr) (c0_2 : Nat) (l0_2 : List Int) (A0_3 : Option Addr) (c0_3 : Nat) (l0_3 : List Int) (A1 : Option Addr) (c1 : Nat) (l1 : List Int) (w : World) (hr0_0 : Kd.C (Kd.int .i64) w A0_0 l0_0.length l0_0) (hc0_0 : l0_0.length ≤ c0_0) (hr0_1 : Kd.C (Kd.int .i64) w A0_1 l0_1.length l0_1) (hc0_1 : l0_1.length ≤ c0_1) (hr0_2 : Kd.C (Kd.int .i64) w A0_2 l0_2.length l0_2) (hc0_2 : l0_2.length ≤ c0_2) (hr0_3 : Kd.C (Kd.int .i64) w A0_3 l0_3.length l0_3) (hc0_3 : l0_3.length ≤ c0_3) (hr1 : Kd.C (Kd.int .i64) w A1 l1.length l1) (hc1 : l1.length ≤ c1) (h : laws_FnExactBestLatePlan.Good k l0_0 l0_1 l0_2 l0_3 l1) :
    Calls Try.prog 9 #[.agg #[.slice A0_0 l0_0.length c0_0, .slice A0_1 l0_1.length c0_1, .slice A0_2 l0_2.length c0_2, .slice A0_3 l0_3.length c0_3], .slice A1 l1.length c1] w fun e w' => e = .returned (.bool true) ∧ Below w.heap.size w w' := by
  have HR0_0 := Aside0.mk hr0_0
  have HC0_0 := Aside0.mk hc0_0
  clear hr0_0 hc0_0
  have HR0_1 := Aside0.mk hr0_1
  have HC0_1 := Aside0.mk hc0_1
  clear hr0_1 hc0_1
  have HR0_2 := Aside0.mk hr0_2
  have HC0_2 := Aside0.mk hc0_2
  clear hr0_2 hc0_2
  have HR0_3 := Aside0.mk hr0_3
  have HC0_3 := Aside0.mk hc0_3
  clear hr0_3 hc0_3
  have HR1 := Aside0.mk hr1
  have HC1 := Aside0.mk hc1
  clear hr1 hc1
  have HB := Aside0.mk (Below.refl w.heap.size w)
  have HB0 := Aside0.mk HB.out.size
  obtain ⟨q0, R, b, k0, ml0_0, ml0_1, ml0_2, ml0_3, k1, ml1, m, mR, f_len_aRates, f_sz0, f_nn0, f_toaC, f_toaRates, f_spec, f_impl, f_eqR, f_eqaC, f_eqaRates, f_mkaC, f_mn0, f_mkaRates, f_mn1, f_mkR, f_held, f_mm, f_lnR⟩ := h
  have t_len_aRates : decide (1048576 < ((l1.length : Int))) = false := decide_eq_false f_len_aRates
  clear f_len_aRates
  have F_sz0 := Aside0.mk f_sz0
  clear f_sz0
  have t_nn0 : decide (q0 < 0) = false := decide_eq_false (by omega)
  clear f_nn0
  have F_toaC := Aside0.mk f_toaC
  clear f_toaC
  have F_toaRates := Aside0.mk f_toaRates
  clear f_toaRates
  have F_spec := Aside0.mk f_spec
  clear f_spec
  have F_impl := Aside0.mk f_impl
  clear f_impl
  have F_eqR := Aside0.mk f_eqR
  clear f_eqR
  have F_eqaC := Aside0.mk f_eqaC
  clear f_eqaC
  have F_eqaRates := Aside0.mk f_eqaRates
  clear f_eqaRates
  have F_mkaC := Aside0.mk f_mkaC
  clear f_mkaC
  have t_mn0 : decide (k0 < 0) = false := decide_eq_false (by omega)
  clear f_mn0
  have F_mkaRates := Aside0.mk f_mkaRates
  clear f_mkaRates
  have t_mn1 : decide (k1 < 0) = false := decide_eq_false (by omega)
  clear f_mn1
  have F_mkR := Aside0.mk f_mkR
  clear f_mkR
  have F_held := Aside0.mk f_held
  clear f_held
  have t_mm : decide (m < 0) = false := decide_eq_false (by omega)
  clear f_mm
  have L_lnR := Aside0.mk f_lnR
  clear f_lnR
  go_enter Try.func9, Try.ntmps9
  go_wp2_with (first | ((with_reducible refine gate_dst (N := 2) rfl ?_); refine box_event ?hg (N := 2) ?hd (cs := #[.slice A0_0 l0_0.length c0_0, .slice A0_1 l0_1.length c0_1, .slice A0_2 l0_2.length c0_2, .slice A0_3 l0_3.length c0_3]) (t := 42) ?hr ?_; (case hd => rfl); (case hg => rfl); (case hr => first | (go_simp; done) | (go_simp; rfl)); intro g2 hg w1 hbox hb; have BK_paC := Aside0.mk hbox; have NB_paC := Aside0.mk (show w.heap.size ≤ g2 ∧ g2 < w1.heap.size from ⟨Nat.le_of_eq hg.symm, blk_lt hbox⟩); have D1 := Aside0.mk hb; clear hbox hg hb; have F1 := Aside0.mk (Fr.of_below D1.out); have HBn := Aside0.mk (below_step HB.out D1.out); clear HB; have HB := HBn; clear HBn; have G1 := Aside0.mk F1.out.1; have HB1 := Aside0.mk HB.out.size; clear D1; have hc_paC_0 : w1.cell? ⟨g2, 0, none⟩ = some (.slice A0_0 l0_0.length c0_0) := (blk_cell BK_paC.out 0).trans rfl; have hc_paC_1 : w1.cell? ⟨g2, 1, none⟩ = some (.slice A0_1 l0_1.length c0_1) := (blk_cell BK_paC.out 1).trans rfl; have hc_paC_2 : w1.cell? ⟨g2, 2, none⟩ = some (.slice A0_2 l0_2.length c0_2) := (blk_cell BK_paC.out 2).trans rfl; have hc_paC_3 : w1.cell? ⟨g2, 3, none⟩ = some (.slice A0_3 l0_3.length c0_3) := (blk_cell BK_paC.out 3).trans rfl))
  go_wp2_with (first | (go_at_call 26; (with_reducible refine (laws_szCase.calls _ _ l0_0 _ _ l0_1 _ _ l0_2 _ _ l0_3 (1048576) q0 (w1) (Kd.C_below HR0_0.out HB.out) HC0_0.out (Kd.C_below HR0_1.out HB.out) HC0_1.out (Kd.C_below HR0_2.out HB.out) HC0_2.out (Kd.C_below HR0_3.out HB.out) HC0_3.out (F_sz0.out)).mono ?_); rintro e w2 ⟨rfl, hb⟩; have D2 := Aside0.mk hb; clear hb; have F2 := Aside0.mk (Fr.of_below D2.out); have HBn := Aside0.mk (below_step HB.out D2.out); clear HB; have HB := HBn; clear HBn; have G2 := Aside0.mk F2.out.1; have HB2 := Aside0.mk HB.out.size; have BK_paCn := Aside0.mk (Fr.blk (BK_paC.out) F2.out (.inr (Nat.zero_le _))); clear BK_paC; have BK_paC := BK_paCn; clear BK_paCn; clear hc_paC_0; have hc_paC_0 : w2.cell? ⟨g2, 0, none⟩ = some (.slice A0_0 l0_0.length c0_0) := (blk_cell BK_paC.out 0).trans rfl; clear hc_paC_1; have hc_paC_1 : w2.cell? ⟨g2, 1, none⟩ = some (.slice A0_1 l0_1.length c0_1) := (blk_cell BK_paC.out 1).trans rfl; clear hc_paC_2; have hc_paC_2 : w2.cell? ⟨g2, 2, none⟩ = some (.slice A0_2 l0_2.length c0_2) := (blk_cell BK_paC.out 2).trans rfl; clear hc_paC_3; have hc_paC_3 : w2.cell? ⟨g2, 3, none⟩ = some (.slice A0_3 l0_3.length c0_3) := (blk_cell BK_paC.out 3).trans rfl))
  go_wp2_with (first | (go_at_call 28; (with_reducible refine (laws_toCase.calls k _ _ l0_0 _ _ l0_1 _ _ l0_2 _ _ l0_3 l0_0 l0_1 l0_2 l0_3 (w2) (Kd.C_below HR0_0.out HB.out) HC0_0.out (Kd.C_below HR0_1.out HB.out) HC0_1.out (Kd.C_below HR0_2.out HB.out) HC0_2.out (Kd.C_below HR0_3.out HB.out) HC0_3.out (F_toaC.out)).mono ?_); rintro e w3 ⟨v3_0, v3_1, v3_2, v3_3, rfl, hn0, hn1, hn2, hn3, hb⟩; have D3 := Aside0.mk hb; clear hb; have M3_0 := Aside0.mk hn0; clear hn0; have M3_1 := Aside0.mk hn1; clear hn1; have M3_2 := Aside0.mk hn2; clear hn2; have M3_3 := Aside0.mk hn3; clear hn3; have F3 := Aside0.mk (Fr.of_below D3.out); have HBn := Aside0.mk (below_step HB.out D3.out); clear HB; have HB := HBn; clear HBn; have G3 := Aside0.mk F3.out.1; have HB3 := Aside0.mk HB.out.size; obtain ⟨a3_0, b3_0, N3_0, H3_0⟩ := Hd.new M3_0.out (B := w.heap.size) HB2.out G3.out; have N3_0 := Aside0.mk N3_0; have H3_0 := Aside0.mk H3_0; obtain ⟨a3_1, b3_1, N3_1, H3_1⟩ := Hd.new M3_1.out (B := w.heap.size) HB2.out G3.out; have N3_1 := Aside0.mk N3_1; have H3_1 := Aside0.mk H3_1; obtain ⟨a3_2, b3_2, N3_2, H3_2⟩ := Hd.new M3_2.out (B := w.heap.size) HB2.out G3.out; have N3_2 := Aside0.mk N3_2; have H3_2 := Aside0.mk H3_2; obtain ⟨a3_3, b3_3, N3_3, H3_3⟩ := Hd.new M3_3.out (B := w.heap.size) HB2.out G3.out; have N3_3 := Aside0.mk N3_3; have H3_3 := Aside0.mk H3_3; have P3_0_1 := Aside0.mk (show ∀ k_, some k_ = (v3_0 : Value).ownBlock → ¬ some k_ = (v3_1 : Value).ownBlock from fun k_ h1 h2 => (M3_0.out.1 k_ h1.symm).1 h2); have P3_0_2 := Aside0.mk (show ∀ k_, some k_ = (v3_0 : Value).ownBlock → ¬ some k_ = (v3_2 : Value).ownBlock from fun k_ h1 h2 => (M3_0.out.1 k_ h1.symm).2.1 h2); have P3_0_3 := Aside0.mk (show ∀ k_, some k_ = (v3_0 : Value).ownBlock → ¬ some k_ = (v3_3 : Value).ownBlock from fun k_ h1 h2 => (M3_0.out.1 k_ h1.symm).2.2 h2); have P3_1_0 := Aside0.mk (show ∀ k_, some k_ = (v3_1 : Value).ownBlock → ¬ some k_ = (v3_0 : Value).ownBlock from fun k_ h1 h2 => (M3_1.out.1 k_ h1.symm).1 h2); have P3_1_2 := Aside0.mk (show ∀ k_, some k_ = (v3_1 : Value).ownBlock → ¬ some k_ = (v3_2 : Value).ownBlock from fun k_ h1 h2 => (M3_1.out.1 k_ h1.symm).2.1 h2); have P3_1_3 := Aside0.mk (show ∀ k_, some k_ = (v3_1 : Value).ownBlock → ¬ some k_ = (v3_3 : Value).ownBlock from fun k_ h1 h2 => (M3_1.out.1 k_ h1.symm).2.2 h2); have P3_2_0 := Aside0.mk (show ∀ k_, some k_ = (v3_2 : Value).ownBlock → ¬ some k_ = (v3_0 : Value).ownBlock from fun k_ h1 h2 => (M3_2.out.1 k_ h1.symm).1 h2); have P3_2_1 := Aside0.mk (show ∀ k_, some k_ = (v3_2 : Value).ownBlock → ¬ some k_ = (v3_1 : Value).ownBlock from fun k_ h1 h2 => (M3_2.out.1 k_ h1.symm).2.1 h2); have P3_2_3 := Aside0.mk (show ∀ k_, some k_ = (v3_2 : Value).ownBlock → ¬ some k_ = (v3_3 : Value).ownBlock from fun k_ h1 h2 => (M3_2.out.1 k_ h1.symm).2.2 h2); have P3_3_0 := Aside0.mk (show ∀ k_, some k_ = (v3_3 : Value).ownBlock → ¬ some k_ = (v3_0 : Value).ownBlock from fun k_ h1 h2 => (M3_3.out.1 k_ h1.symm).1 h2); have P3_3_1 := Aside0.mk (show ∀ k_, some k_ = (v3_3 : Value).ownBlock → ¬ some k_ = (v3_1 : Value).ownBlock from fun k_ h1 h2 => (M3_3.out.1 k_ h1.symm).2.1 h2); have P3_3_2 := Aside0.mk (show ∀ k_, some k_ = (v3_3 : Value).ownBlock → ¬ some k_ = (v3_2 : Value).ownBlock from fun k_ h1 h2 => (M3_3.out.1 k_ h1.symm).2.2 h2); clear M3_0 M3_1 M3_2 M3_3; obtain ⟨A3_0, c3_0, e3_0⟩ := Hd.form H3_0.out; subst e3_0; obtain ⟨A3_1, c3_1, e3_1⟩ := Hd.form H3_1.out; subst e3_1; obtain ⟨A3_2, c3_2, e3_2⟩ := Hd.form H3_2.out; subst e3_2; obtain ⟨A3_3, c3_3, e3_3⟩ := Hd.form H3_3.out; subst e3_3))
  go_wp2_with (first | (go_at_call 11; (with_reducible refine (laws_toIntS.calls k _ _ l1 l1 (w3) (Kd.C_below HR1.out HB.out) HC1.out (F_toaRates.out)).mono ?_); rintro e w4 ⟨v4_0, rfl, hn0, hb⟩; have D4 := Aside0.mk hb; clear hb; have M4_0 := Aside0.mk hn0; clear hn0; have F4 := Aside0.mk (Fr.of_below D4.out); have HBn := Aside0.mk (below_step HB.out D4.out); clear HB; have HB := HBn; clear HBn; have G4 := Aside0.mk F4.out.1; have HB4 := Aside0.mk HB.out.size; obtain ⟨a4_0, b4_0, N4_0, H4_0⟩ := Hd.new M4_0.out (B := w.heap.size) HB3.out G4.out; have N4_0 := Aside0.mk N4_0; have H4_0 := Aside0.mk H4_0; clear M4_0; obtain ⟨A4_0, c4_0, e4_0⟩ := Hd.form H4_0.out; subst e4_0))
  have H3_0n := Aside0.mk (Hd.move (H3_0.out) F4.out (.inr (Nat.zero_le _)))
  clear H3_0
  have H3_0 := H3_0n
  clear H3_0n
  have H3_1n := Aside0.mk (Hd.move (H3_1.out) F4.out (.inr (Nat.zero_le _)))
  clear H3_1
  have H3_1 := H3_1n
  clear H3_1n
  have H3_2n := Aside0.mk (Hd.move (H3_2.out) F4.out (.inr (Nat.zero_le _)))
  clear H3_2
  have H3_2 := H3_2n
  clear H3_2n
  have H3_3n := Aside0.mk (Hd.move (H3_3.out) F4.out (.inr (Nat.zero_le _)))
  clear H3_3
  have H3_3 := H3_3n
  clear H3_3n
  go_wp2_with (first | (go_at_call 31; (with_reducible refine (spec_BestLatePlan.calls k _ _ l0_0 _ _ l0_1 _ _ l0_2 _ _ l0_3 _ _ l1 R b (w4) (Hd.C H3_0.out) (Hd.cap H3_0.out) (Hd.C H3_1.out) (Hd.cap H3_1.out) (Hd.C H3_2.out) (Hd.cap H3_2.out) (Hd.C H3_3.out) (Hd.cap H3_3.out) (Hd.C H4_0.out) (Hd.cap H4_0.out) (F_spec.out)).mono ?_); rintro e w5 ⟨v5_0, rfl, hn0, hb⟩; have D5 := Aside0.mk hb; clear hb; have M5_0 := Aside0.mk hn0; clear hn0; have F5 := Aside0.mk (Fr.of_below D5.out); have HBn := Aside0.mk (below_step HB.out D5.out); clear HB; have HB := HBn; clear HBn; have G5 := Aside0.mk F5.out.1; have HB5 := Aside0.mk HB.out.size; obtain ⟨a5_0, b5_0, N5_0, H5_0⟩ := Hd.new M5_0.out (B := w.heap.size) HB4.out G5.out; have N5_0 := Aside0.mk N5_0; have H5_0 := Aside0.mk H5_0; clear M5_0; obtain ⟨A5_0, c5_0, e5_0⟩ := Hd.form H5_0.out; subst e5_0; have BK_paCn := Aside0.mk (Fr.blk (Fr.blk (Fr.blk (BK_paC.out) F3.out (.inr (Nat.zero_le _))) F4.out (.inr (Nat.zero_le _))) F5.out (.inr (Nat.zero_le _))); clear BK_paC; have BK_paC := BK_paCn; clear BK_paCn; clear hc_paC_0; have hc_paC_0 : w5.cell? ⟨g2, 0, none⟩ = some (.slice A0_0 l0_0.length c0_0) := (blk_cell BK_paC.out 0).trans rfl; clear hc_paC_1; have hc_paC_1 : w5.cell? ⟨g2, 1, none⟩ = some (.slice A0_1 l0_1.length c0_1) := (blk_cell BK_paC.out 1).trans rfl; clear hc_paC_2; have hc_paC_2 : w5.cell? ⟨g2, 2, none⟩ = some (.slice A0_2 l0_2.length c0_2) := (blk_cell BK_paC.out 2).trans rfl; clear hc_paC_3; have hc_paC_3 : w5.cell? ⟨g2, 3, none⟩ = some (.slice A0_3 l0_3.length c0_3) := (blk_cell BK_paC.out 3).trans rfl))
  go_wp2_with (first | (go_at_call 28; (with_reducible refine (laws_toCase.calls k _ _ l0_0 _ _ l0_1 _ _ l0_2 _ _ l0_3 l0_0 l0_1 l0_2 l0_3 (w5) (Kd.C_below HR0_0.out HB.out) HC0_0.out (Kd.C_below HR0_1.out HB.out) HC0_1.out (Kd.C_below HR0_2.out HB.out) HC0_2.out (Kd.C_below HR0_3.out HB.out) HC0_3.out (F_toaC.out)).mono ?_); rintro e w6 ⟨v6_0, v6_1, v6_2, v6_3, rfl, hn0, hn1, hn2, hn3, hb⟩; have D6 := Aside0.mk hb; clear hb; have M6_0 := Aside0.mk hn0; clear hn0; have M6_1 := Aside0.mk hn1; clear hn1; have M6_2 := Aside0.mk hn2; clear hn2; have M6_3 := Aside0.mk hn3; clear hn3; have F6 := Aside0.mk (Fr.of_below D6.out); have HBn := Aside0.mk (below_step HB.out D6.out); clear HB; have HB := HBn; clear HBn; have G6 := Aside0.mk F6.out.1; have HB6 := Aside0.mk HB.out.size; obtain ⟨a6_0, b6_0, N6_0, H6_0⟩ := Hd.new M6_0.out (B := w.heap.size) HB5.out G6.out; have N6_0 := Aside0.mk N6_0; have H6_0 := Aside0.mk H6_0; obtain ⟨a6_1, b6_1, N6_1, H6_1⟩ := Hd.new M6_1.out (B := w.heap.size) HB5.out G6.out; have N6_1 := Aside0.mk N6_1; have H6_1 := Aside0.mk H6_1; obtain ⟨a6_2, b6_2, N6_2, H6_2⟩ := Hd.new M6_2.out (B := w.heap.size) HB5.out G6.out; have N6_2 := Aside0.mk N6_2; have H6_2 := Aside0.mk H6_2; obtain ⟨a6_3, b6_3, N6_3, H6_3⟩ := Hd.new M6_3.out (B := w.heap.size) HB5.out G6.out; have N6_3 := Aside0.mk N6_3; have H6_3 := Aside0.mk H6_3; have P6_0_1 := Aside0.mk (show ∀ k_, some k_ = (v6_0 : Value).ownBlock → ¬ some k_ = (v6_1 : Value).ownBlock from fun k_ h1 h2 => (M6_0.out.1 k_ h1.symm).1 h2); have P6_0_2 := Aside0.mk (show ∀ k_, some k_ = (v6_0 : Value).ownBlock → ¬ some k_ = (v6_2 : Value).ownBlock from fun k_ h1 h2 => (M6_0.out.1 k_ h1.symm).2.1 h2); have P6_0_3 := Aside0.mk (show ∀ k_, some k_ = (v6_0 : Value).ownBlock → ¬ some k_ = (v6_3 : Value).ownBlock from fun k_ h1 h2 => (M6_0.out.1 k_ h1.symm).2.2 h2); have P6_1_0 := Aside0.mk (show ∀ k_, some k_ = (v6_1 : Value).ownBlock → ¬ some k_ = (v6_0 : Value).ownBlock from fun k_ h1 h2 => (M6_1.out.1 k_ h1.symm).1 h2); have P6_1_2 := Aside0.mk (show ∀ k_, some k_ = (v6_1 : Value).ownBlock → ¬ some k_ = (v6_2 : Value).ownBlock from fun k_ h1 h2 => (M6_1.out.1 k_ h1.symm).2.1 h2); have P6_1_3 := Aside0.mk (show ∀ k_, some k_ = (v6_1 : Value).ownBlock → ¬ some k_ = (v6_3 : Value).ownBlock from fun k_ h1 h2 => (M6_1.out.1 k_ h1.symm).2.2 h2); have P6_2_0 := Aside0.mk (show ∀ k_, some k_ = (v6_2 : Value).ownBlock → ¬ some k_ = (v6_0 : Value).ownBlock from fun k_ h1 h2 => (M6_2.out.1 k_ h1.symm).1 h2); have P6_2_1 := Aside0.mk (show ∀ k_, some k_ = (v6_2 : Value).ownBlock → ¬ some k_ = (v6_1 : Value).ownBlock from fun k_ h1 h2 => (M6_2.out.1 k_ h1.symm).2.1 h2); have P6_2_3 := Aside0.mk (show ∀ k_, some k_ = (v6_2 : Value).ownBlock → ¬ some k_ = (v6_3 : Value).ownBlock from fun k_ h1 h2 => (M6_2.out.1 k_ h1.symm).2.2 h2); have P6_3_0 := Aside0.mk (show ∀ k_, some k_ = (v6_3 : Value).ownBlock → ¬ some k_ = (v6_0 : Value).ownBlock from fun k_ h1 h2 => (M6_3.out.1 k_ h1.symm).1 h2); have P6_3_1 := Aside0.mk (show ∀ k_, some k_ = (v6_3 : Value).ownBlock → ¬ some k_ = (v6_1 : Value).ownBlock from fun k_ h1 h2 => (M6_3.out.1 k_ h1.symm).2.1 h2); have P6_3_2 := Aside0.mk (show ∀ k_, some k_ = (v6_3 : Value).ownBlock → ¬ some k_ = (v6_2 : Value).ownBlock from fun k_ h1 h2 => (M6_3.out.1 k_ h1.symm).2.2 h2); clear M6_0 M6_1 M6_2 M6_3; obtain ⟨A6_0, c6_0, e6_0⟩ := Hd.form H6_0.out; subst e6_0; obtain ⟨A6_1, c6_1, e6_1⟩ := Hd.form H6_1.out; subst e6_1; obtain ⟨A6_2, c6_2, e6_2⟩ := Hd.form H6_2.out; subst e6_2; obtain ⟨A6_3, c6_3, e6_3⟩ := Hd.form H6_3.out; subst e6_3) | ((with_reducible refine gate_dst (N := 8) rfl ?_); refine box_event ?hg (N := 8) ?hd (cs := #[.slice none 0 0, .slice none 0 0, .slice none 0 0, .slice none 0 0]) (t := 45) ?hr ?_; (case hd => rfl); (case hg => rfl); (case hr => first | (go_simp; done) | (go_simp; rfl)); intro g8 hg w7 hbox hb; have BK_x_aC := Aside0.mk hbox; have NB_x_aC := Aside0.mk (show w6.heap.size ≤ g8 ∧ g8 < w7.heap.size from ⟨Nat.le_of_eq hg.symm, blk_lt hbox⟩); have D7 := Aside0.mk hb; clear hbox hg hb; have F7 := Aside0.mk (Fr.of_below D7.out); have HBn := Aside0.mk (below_step HB.out D7.out); clear HB; have HB := HBn; clear HBn; have G7 := Aside0.mk F7.out.1; have HB7 := Aside0.mk HB.out.size; clear D7; have hz_0 := (blk_cell BK_x_aC.out 0).trans (show _ = some (.slice none 0 0 : Value) from rfl); have hf_0 := blk_frozen BK_x_aC.out 0; have hz_1 := (blk_cell BK_x_aC.out 1).trans (show _ = some (.slice none 0 0 : Value) from rfl); have hf_1 := blk_frozen BK_x_aC.out 1; have hz_2 := (blk_cell BK_x_aC.out 2).trans (show _ = some (.slice none 0 0 : Value) from rfl); have hf_2 := blk_frozen BK_x_aC.out 2; have hz_3 := (blk_cell BK_x_aC.out 3).trans (show _ = some (.slice none 0 0 : Value) from rfl); have hf_3 := blk_frozen BK_x_aC.out 3))
  generalize hw8 : (World.setCell (World.setCell (World.setCell (World.setCell w7 ⟨g8, 0, none⟩ (.slice A6_0 l0_0.length c6_0)) ⟨g8, 1, none⟩ (.slice A6_1 l0_1.length c6_1)) ⟨g8, 2, none⟩ (.slice A6_2 l0_2.length c6_2)) ⟨g8, 3, none⟩ (.slice A6_3 l0_3.length c6_3)) = w8
  have S8 := stored4 BK_x_aC.out HB.out (by have := NB_x_aC.out; have := HB6.out; omega) (.slice A6_0 l0_0.length c6_0) (.slice A6_1 l0_1.length c6_1) (.slice A6_2 l0_2.length c6_2) (.slice A6_3 l0_3.length c6_3)
  rw [hw8] at S8
  clear hw8 hz_0 hz_1 hz_2 hz_3 hf_0 hf_1 hf_2 hf_3 
  clear hc_paC_0 hc_paC_1 hc_paC_2 hc_paC_3
  have BK_x_aCn := Aside0.mk S8.1
  clear BK_x_aC
  have BK_x_aC := BK_x_aCn
  clear BK_x_aCn
  have F8 := Aside0.mk (S8.2.1)
  have HBn := Aside0.mk (S8.2.2)
  clear HB
  have HB := HBn
  clear HBn
  have G8 := Aside0.mk F8.out.1
  have HB8 := Aside0.mk HB.out.size
  clear S8
  go_wp2_with (first | (go_at_call 11; (with_reducible refine (laws_toIntS.calls k _ _ l1 l1 (w8) (Kd.C_below HR1.out HB.out) HC1.out (F_toaRates.out)).mono ?_); rintro e w9 ⟨v9_0, rfl, hn0, hb⟩; have D9 := Aside0.mk hb; clear hb; have M9_0 := Aside0.mk hn0; clear hn0; have F9 := Aside0.mk (Fr.of_below D9.out); have HBn := Aside0.mk (below_step HB.out D9.out); clear HB; have HB := HBn; clear HBn; have G9 := Aside0.mk F9.out.1; have HB9 := Aside0.mk HB.out.size; obtain ⟨a9_0, b9_0, N9_0, H9_0⟩ := Hd.new M9_0.out (B := w.heap.size) HB8.out G9.out; have N9_0 := Aside0.mk N9_0; have H9_0 := Aside0.mk H9_0; clear M9_0; obtain ⟨A9_0, c9_0, e9_0⟩ := Hd.form H9_0.out; subst e9_0; have BK_x_aCn := Aside0.mk (Fr.blk (BK_x_aC.out) F9.out (.inr (Nat.zero_le _))); clear BK_x_aC; have BK_x_aC := BK_x_aCn; clear BK_x_aCn; have hc_x_aC_0 : w9.cell? ⟨g8, 0, none⟩ = some (.slice A6_0 l0_0.length c6_0) := (blk_cell BK_x_aC.out 0).trans rfl; have hc_x_aC_1 : w9.cell? ⟨g8, 1, none⟩ = some (.slice A6_1 l0_1.length c6_1) := (blk_cell BK_x_aC.out 1).trans rfl; have hc_x_aC_2 : w9.cell? ⟨g8, 2, none⟩ = some (.slice A6_2 l0_2.length c6_2) := (blk_cell BK_x_aC.out 2).trans rfl; have hc_x_aC_3 : w9.cell? ⟨g8, 3, none⟩ = some (.slice A6_3 l0_3.length c6_3) := (blk_cell BK_x_aC.out 3).trans rfl))
  have H6_0n := Aside0.mk (Hd.move (Hd.move (Hd.move (H6_0.out) F7.out (.inr (Nat.zero_le _))) F8.out (by have := N6_0.out; have := NB_x_aC.out; left; omega)) F9.out (.inr (Nat.zero_le _)))
  clear H6_0
  have H6_0 := H6_0n
  clear H6_0n
  have H6_1n := Aside0.mk (Hd.move (Hd.move (Hd.move (H6_1.out) F7.out (.inr (Nat.zero_le _))) F8.out (by have := N6_1.out; have := NB_x_aC.out; left; omega)) F9.out (.inr (Nat.zero_le _)))
  clear H6_1
  have H6_1 := H6_1n
  clear H6_1n
  have H6_2n := Aside0.mk (Hd.move (Hd.move (Hd.move (H6_2.out) F7.out (.inr (Nat.zero_le _))) F8.out (by have := N6_2.out; have := NB_x_aC.out; left; omega)) F9.out (.inr (Nat.zero_le _)))
  clear H6_2
  have H6_2 := H6_2n
  clear H6_2n
  have H6_3n := Aside0.mk (Hd.move (Hd.move (Hd.move (H6_3.out) F7.out (.inr (Nat.zero_le _))) F8.out (by have := N6_3.out; have := NB_x_aC.out; left; omega)) F9.out (.inr (Nat.zero_le _)))
  clear H6_3
  have H6_3 := H6_3n
  clear H6_3n
  go_wp2_with (first | (go_at_call 32; (with_reducible refine (impl_BestLatePlan.calls k _ _ l0_0 _ _ l0_1 _ _ l0_2 _ _ l0_3 _ _ l1 R b (w9) (Hd.C H6_0.out) (Hd.cap H6_0.out) (Hd.C H6_1.out) (Hd.cap H6_1.out) (Hd.C H6_2.out) (Hd.cap H6_2.out) (Hd.C H6_3.out) (Hd.cap H6_3.out) (Hd.C H9_0.out) (Hd.cap H9_0.out) (F_impl.out)).mono ?_); rintro e w10 ⟨v10_0, rfl, hn0, hb⟩; have D10 := Aside0.mk hb; clear hb; have M10_0 := Aside0.mk hn0; clear hn0; have F10 := Aside0.mk (Fr.of_below D10.out); have HBn := Aside0.mk (below_step HB.out D10.out); clear HB; have HB := HBn; clear HBn; have G10 := Aside0.mk F10.out.1; have HB10 := Aside0.mk HB.out.size; obtain ⟨a10_0, b10_0, N10_0, H10_0⟩ := Hd.new M10_0.out (B := w.heap.size) HB9.out G10.out; have N10_0 := Aside0.mk N10_0; have H10_0 := Aside0.mk H10_0; clear M10_0; obtain ⟨A10_0, c10_0, e10_0⟩ := Hd.form H10_0.out; subst e10_0))
  have H5_0n := Aside0.mk (Hd.move (Hd.move (Hd.move (Hd.move (Hd.move (H5_0.out) F6.out (.inr (Nat.zero_le _))) F7.out (.inr (Nat.zero_le _))) F8.out (by have := N5_0.out; have := NB_x_aC.out; have := G6.out; left; omega)) F9.out (.inr (Nat.zero_le _))) F10.out (.inr (Nat.zero_le _)))
  clear H5_0
  have H5_0 := H5_0n
  clear H5_0n
  go_wp2_with (first | (go_at_call 13; (with_reducible refine (laws_eqIntS.calls k _ _ R _ _ R true (w10) (Hd.C H10_0.out) (Hd.cap H10_0.out) (Hd.C H5_0.out) (Hd.cap H5_0.out) (F_eqR.out)).mono ?_); rintro e w11 ⟨rfl, hd⟩; have D11 := Aside0.mk hd.below; clear hd; have F11 := Aside0.mk (Fr.of_below D11.out); have HBn := Aside0.mk (below_step HB.out D11.out); clear HB; have HB := HBn; clear HBn; have G11 := Aside0.mk F11.out.1; have HB11 := Aside0.mk HB.out.size; have BK_x_aCn := Aside0.mk (Fr.blk (Fr.blk (BK_x_aC.out) F10.out (.inr (Nat.zero_le _))) F11.out (.inr (Nat.zero_le _))); clear BK_x_aC; have BK_x_aC := BK_x_aCn; clear BK_x_aCn; clear hc_x_aC_0; have hc_x_aC_0 : w11.cell? ⟨g8, 0, none⟩ = some (.slice A6_0 l0_0.length c6_0) := (blk_cell BK_x_aC.out 0).trans rfl; clear hc_x_aC_1; have hc_x_aC_1 : w11.cell? ⟨g8, 1, none⟩ = some (.slice A6_1 l0_1.length c6_1) := (blk_cell BK_x_aC.out 1).trans rfl; clear hc_x_aC_2; have hc_x_aC_2 : w11.cell? ⟨g8, 2, none⟩ = some (.slice A6_2 l0_2.length c6_2) := (blk_cell BK_x_aC.out 2).trans rfl; clear hc_x_aC_3; have hc_x_aC_3 : w11.cell? ⟨g8, 3, none⟩ = some (.slice A6_3 l0_3.length c6_3) := (blk_cell BK_x_aC.out 3).trans rfl; have BK_paCn := Aside0.mk (Fr.blk (Fr.blk (Fr.blk (Fr.blk (Fr.blk (Fr.blk (BK_paC.out) F6.out (.inr (Nat.zero_le _))) F7.out (.inr (Nat.zero_le _))) F8.out (by have := NB_paC.out; have := NB_x_aC.out; have := G2.out; have := G3.out; have := G4.out; have := G5.out; have := G6.out; left; omega)) F9.out (.inr (Nat.zero_le _))) F10.out (.inr (Nat.zero_le _))) F11.out (.inr (Nat.zero_le _))); clear BK_paC; have BK_paC := BK_paCn; clear BK_paCn; have hc_paC_0 : w11.cell? ⟨g2, 0, none⟩ = some (.slice A0_0 l0_0.length c0_0) := (blk_cell BK_paC.out 0).trans rfl; have hc_paC_1 : w11.cell? ⟨g2, 1, none⟩ = some (.slice A0_1 l0_1.length c0_1) := (blk_cell BK_paC.out 1).trans rfl; have hc_paC_2 : w11.cell? ⟨g2, 2, none⟩ = some (.slice A0_2 l0_2.length c0_2) := (blk_cell BK_paC.out 2).trans rfl; have hc_paC_3 : w11.cell? ⟨g2, 3, none⟩ = some (.slice A0_3 l0_3.length c0_3) := (blk_cell BK_paC.out 3).trans rfl))
  clear hc_x_aC_0
  have hc_x_aC_0 : w11.cell? ⟨g8, 0, none⟩ = some (.slice A6_0 l0_0.length c6_0) := (blk_cell BK_x_aC.out 0).trans rfl
  clear hc_x_aC_1
  have hc_x_aC_1 : w11.cell? ⟨g8, 1, none⟩ = some (.slice A6_1 l0_1.length c6_1) := (blk_cell BK_x_aC.out 1).trans rfl
  clear hc_x_aC_2
  have hc_x_aC_2 : w11.cell? ⟨g8, 2, none⟩ = some (.slice A6_2 l0_2.length c6_2) := (blk_cell BK_x_aC.out 2).trans rfl
  clear hc_x_aC_3
  have hc_x_aC_3 : w11.cell? ⟨g8, 3, none⟩ = some (.slice A6_3 l0_3.length c6_3) := (blk_cell BK_x_aC.out 3).trans rfl
  clear hc_paC_0
  have hc_paC_0 : w11.cell? ⟨g2, 0, none⟩ = some (.slice A0_0 l0_0.length c0_0) := (blk_cell BK_paC.out 0).trans rfl
  clear hc_paC_1
  have hc_paC_1 : w11.cell? ⟨g2, 1, none⟩ = some (.slice A0_1 l0_1.length c0_1) := (blk_cell BK_paC.out 1).trans rfl
  clear hc_paC_2
  have hc_paC_2 : w11.cell? ⟨g2, 2, none⟩ = some (.slice A0_2 l0_2.length c0_2) := (blk_cell BK_paC.out 2).trans rfl
  clear hc_paC_3
  have hc_paC_3 : w11.cell? ⟨g2, 3, none⟩ = some (.slice A0_3 l0_3.length c0_3) := (blk_cell BK_paC.out 3).trans rfl
  have F12 := Aside0.mk (Fr.drew w11)
  have HBn := Aside0.mk (below_drew1 HB.out)
  clear HB
  have HB := HBn
  clear HBn
  have G12 := Aside0.mk F12.out.1
  have HB12 := Aside0.mk HB.out.size
  go_region_held3 (fun w' => w'.cell? ⟨g8, 0, none⟩ = some (.slice A6_0 l0_0.length c6_0) ∧ w'.cell? ⟨g8, 1, none⟩ = some (.slice A6_1 l0_1.length c6_1) ∧ w'.cell? ⟨g8, 2, none⟩ = some (.slice A6_2 l0_2.length c6_2) ∧ w'.cell? ⟨g8, 3, none⟩ = some (.slice A6_3 l0_3.length c6_3) ∧ w'.cell? ⟨g2, 0, none⟩ = some (.slice A0_0 l0_0.length c0_0) ∧ w'.cell? ⟨g2, 1, none⟩ = some (.slice A0_1 l0_1.length c0_1) ∧ w'.cell? ⟨g2, 2, none⟩ = some (.slice A0_2 l0_2.length c0_2) ∧ w'.cell? ⟨g2, 3, none⟩ = some (.slice A0_3 l0_3.length c0_3)) (first | go_keep | (go_split_ands; refine ⟨?_, ?_, ?_, ?_, ?_, ?_, ?_, ?_⟩ <;> first | exact pw_cell_below hq2 (by assumption) | exact pw_cell_below hq1 (by assumption))) ((first | (go_at_call 28; (with_reducible refine (laws_toCase.calls k _ _ l0_0 _ _ l0_1 _ _ l0_2 _ _ l0_3 l0_0 l0_1 l0_2 l0_3 (w11.drew) (Kd.C_below HR0_0.out HB.out) HC0_0.out (Kd.C_below HR0_1.out HB.out) HC0_1.out (Kd.C_below HR0_2.out HB.out) HC0_2.out (Kd.C_below HR0_3.out HB.out) HC0_3.out (F_toaC.out)).mono ?_); rintro e w13 ⟨v13_0, v13_1, v13_2, v13_3, rfl, hn0, hn1, hn2, hn3, hb⟩; have D13 := Aside0.mk hb; clear hb; have M13_0 := Aside0.mk hn0; clear hn0; have M13_1 := Aside0.mk hn1; clear hn1; have M13_2 := Aside0.mk hn2; clear hn2; have M13_3 := Aside0.mk hn3; clear hn3; have F13 := Aside0.mk (Fr.of_below D13.out); have HBn := Aside0.mk (below_step HB.out D13.out); clear HB; have HB := HBn; clear HBn; have G13 := Aside0.mk F13.out.1; have HB13 := Aside0.mk HB.out.size; obtain ⟨a13_0, b13_0, N13_0, H13_0⟩ := Hd.new M13_0.out (B := w.heap.size) HB12.out G13.out; have N13_0 := Aside0.mk N13_0; have H13_0 := Aside0.mk H13_0; obtain ⟨a13_1, b13_1, N13_1, H13_1⟩ := Hd.new M13_1.out (B := w.heap.size) HB12.out G13.out; have N13_1 := Aside0.mk N13_1; have H13_1 := Aside0.mk H13_1; obtain ⟨a13_2, b13_2, N13_2, H13_2⟩ := Hd.new M13_2.out (B := w.heap.size) HB12.out G13.out; have N13_2 := Aside0.mk N13_2; have H13_2 := Aside0.mk H13_2; obtain ⟨a13_3, b13_3, N13_3, H13_3⟩ := Hd.new M13_3.out (B := w.heap.size) HB12.out G13.out; have N13_3 := Aside0.mk N13_3; have H13_3 := Aside0.mk H13_3; have P13_0_1 := Aside0.mk (show ∀ k_, some k_ = (v13_0 : Value).ownBlock → ¬ some k_ = (v13_1 : Value).ownBlock from fun k_ h1 h2 => (M13_0.out.1 k_ h1.symm).1 h2); have P13_0_2 := Aside0.mk (show ∀ k_, some k_ = (v13_0 : Value).ownBlock → ¬ some k_ = (v13_2 : Value).ownBlock from fun k_ h1 h2 => (M13_0.out.1 k_ h1.symm).2.1 h2); have P13_0_3 := Aside0.mk (show ∀ k_, some k_ = (v13_0 : Value).ownBlock → ¬ some k_ = (v13_3 : Value).ownBlock from fun k_ h1 h2 => (M13_0.out.1 k_ h1.symm).2.2 h2); have P13_1_0 := Aside0.mk (show ∀ k_, some k_ = (v13_1 : Value).ownBlock → ¬ some k_ = (v13_0 : Value).ownBlock from fun k_ h1 h2 => (M13_1.out.1 k_ h1.symm).1 h2); have P13_1_2 := Aside0.mk (show ∀ k_, some k_ = (v13_1 : Value).ownBlock → ¬ some k_ = (v13_2 : Value).ownBlock from fun k_ h1 h2 => (M13_1.out.1 k_ h1.symm).2.1 h2); have P13_1_3 := Aside0.mk (show ∀ k_, some k_ = (v13_1 : Value).ownBlock → ¬ some k_ = (v13_3 : Value).ownBlock from fun k_ h1 h2 => (M13_1.out.1 k_ h1.symm).2.2 h2); have P13_2_0 := Aside0.mk (show ∀ k_, some k_ = (v13_2 : Value).ownBlock → ¬ some k_ = (v13_0 : Value).ownBlock from fun k_ h1 h2 => (M13_2.out.1 k_ h1.symm).1 h2); have P13_2_1 := Aside0.mk (show ∀ k_, some k_ = (v13_2 : Value).ownBlock → ¬ some k_ = (v13_1 : Value).ownBlock from fun k_ h1 h2 => (M13_2.out.1 k_ h1.symm).2.1 h2); have P13_2_3 := Aside0.mk (show ∀ k_, some k_ = (v13_2 : Value).ownBlock → ¬ some k_ = (v13_3 : Value).ownBlock from fun k_ h1 h2 => (M13_2.out.1 k_ h1.symm).2.2 h2); have P13_3_0 := Aside0.mk (show ∀ k_, some k_ = (v13_3 : Value).ownBlock → ¬ some k_ = (v13_0 : Value).ownBlock from fun k_ h1 h2 => (M13_3.out.1 k_ h1.symm).1 h2); have P13_3_1 := Aside0.mk (show ∀ k_, some k_ = (v13_3 : Value).ownBlock → ¬ some k_ = (v13_1 : Value).ownBlock from fun k_ h1 h2 => (M13_3.out.1 k_ h1.symm).2.1 h2); have P13_3_2 := Aside0.mk (show ∀ k_, some k_ = (v13_3 : Value).ownBlock → ¬ some k_ = (v13_2 : Value).ownBlock from fun k_ h1 h2 => (M13_3.out.1 k_ h1.symm).2.2 h2); clear M13_0 M13_1 M13_2 M13_3; obtain ⟨A13_0, c13_0, e13_0⟩ := Hd.form H13_0.out; subst e13_0; obtain ⟨A13_1, c13_1, e13_1⟩ := Hd.form H13_1.out; subst e13_1; obtain ⟨A13_2, c13_2, e13_2⟩ := Hd.form H13_2.out; subst e13_2; obtain ⟨A13_3, c13_3, e13_3⟩ := Hd.form H13_3.out; subst e13_3; have hq1 := D13.out; have H6_0n := Aside0.mk (Hd.move (Hd.move (Hd.move (Hd.move (H6_0.out) F10.out (.inr (Nat.zero_le _))) F11.out (.inr (Nat.zero_le _))) F12.out (.inr (Nat.zero_le _))) F13.out (.inr (Nat.zero_le _))); clear H6_0; have H6_0 := H6_0n; clear H6_0n; have H6_1n := Aside0.mk (Hd.move (Hd.move (Hd.move (Hd.move (H6_1.out) F10.out (.inr (Nat.zero_le _))) F11.out (.inr (Nat.zero_le _))) F12.out (.inr (Nat.zero_le _))) F13.out (.inr (Nat.zero_le _))); clear H6_1; have H6_1 := H6_1n; clear H6_1n; have H6_2n := Aside0.mk (Hd.move (Hd.move (Hd.move (Hd.move (H6_2.out) F10.out (.inr (Nat.zero_le _))) F11.out (.inr (Nat.zero_le _))) F12.out (.inr (Nat.zero_le _))) F13.out (.inr (Nat.zero_le _))); clear H6_2; have H6_2 := H6_2n; clear H6_2n; have H6_3n := Aside0.mk (Hd.move (Hd.move (Hd.move (Hd.move (H6_3.out) F10.out (.inr (Nat.zero_le _))) F11.out (.inr (Nat.zero_le _))) F12.out (.inr (Nat.zero_le _))) F13.out (.inr (Nat.zero_le _))); clear H6_3; have H6_3 := H6_3n; clear H6_3n) | (go_at_call 30; (with_reducible refine (laws_eqCase.calls k _ _ l0_0 _ _ l0_1 _ _ l0_2 _ _ l0_3 _ _ l0_0 _ _ l0_1 _ _ l0_2 _ _ l0_3 true (w13) (Hd.C H6_0.out) (Hd.cap H6_0.out) (Hd.C H6_1.out) (Hd.cap H6_1.out) (Hd.C H6_2.out) (Hd.cap H6_2.out) (Hd.C H6_3.out) (Hd.cap H6_3.out) (Hd.C H13_0.out) (Hd.cap H13_0.out) (Hd.C H13_1.out) (Hd.cap H13_1.out) (Hd.C H13_2.out) (Hd.cap H13_2.out) (Hd.C H13_3.out) (Hd.cap H13_3.out) (F_eqaC.out)).mono ?_); rintro e w14 ⟨rfl, hb⟩; have D14 := Aside0.mk hb; clear hb; have F14 := Aside0.mk (Fr.of_below D14.out); have HBn := Aside0.mk (below_step HB.out D14.out); clear HB; have HB := HBn; clear HBn; have G14 := Aside0.mk F14.out.1; have HB14 := Aside0.mk HB.out.size; have hq2 := D14.out)))
  clear hq1 hq2
  clear hc_x_aC_0 hc_x_aC_1 hc_x_aC_2 hc_x_aC_3 hc_paC_0 hc_paC_1 hc_paC_2 hc_paC_3
  go_wp2_with (first | (go_at_call 11; (with_reducible refine (laws_toIntS.calls k _ _ l1 l1 (w14) (Kd.C_below HR1.out HB.out) HC1.out (F_toaRates.out)).mono ?_); rintro e w15 ⟨v15_0, rfl, hn0, hb⟩; have D15 := Aside0.mk hb; clear hb; have M15_0 := Aside0.mk hn0; clear hn0; have F15 := Aside0.mk (Fr.of_below D15.out); have HBn := Aside0.mk (below_step HB.out D15.out); clear HB; have HB := HBn; clear HBn; have G15 := Aside0.mk F15.out.1; have HB15 := Aside0.mk HB.out.size; obtain ⟨a15_0, b15_0, N15_0, H15_0⟩ := Hd.new M15_0.out (B := w.heap.size) HB14.out G15.out; have N15_0 := Aside0.mk N15_0; have H15_0 := Aside0.mk H15_0; clear M15_0; obtain ⟨A15_0, c15_0, e15_0⟩ := Hd.form H15_0.out; subst e15_0))
  have H9_0n := Aside0.mk (Hd.move (Hd.move (Hd.move (Hd.move (Hd.move (Hd.move (H9_0.out) F10.out (.inr (Nat.zero_le _))) F11.out (.inr (Nat.zero_le _))) F12.out (.inr (Nat.zero_le _))) F13.out (.inr (Nat.zero_le _))) F14.out (.inr (Nat.zero_le _))) F15.out (.inr (Nat.zero_le _)))
  clear H9_0
  have H9_0 := H9_0n
  clear H9_0n
  go_wp2_with (first | (go_at_call 13; (with_reducible refine (laws_eqIntS.calls k _ _ l1 _ _ l1 true (w15) (Hd.C H9_0.out) (Hd.cap H9_0.out) (Hd.C H15_0.out) (Hd.cap H15_0.out) (F_eqaRates.out)).mono ?_); rintro e w16 ⟨rfl, hd⟩; have D16 := Aside0.mk hd.below; clear hd; have F16 := Aside0.mk (Fr.of_below D16.out); have HBn := Aside0.mk (below_step HB.out D16.out); clear HB; have HB := HBn; clear HBn; have G16 := Aside0.mk F16.out.1; have HB16 := Aside0.mk HB.out.size; have BK_x_aCn := Aside0.mk (Fr.blk (Fr.blk (Fr.blk (Fr.blk (Fr.blk (BK_x_aC.out) F12.out (.inr (Nat.zero_le _))) F13.out (.inr (Nat.zero_le _))) F14.out (.inr (Nat.zero_le _))) F15.out (.inr (Nat.zero_le _))) F16.out (.inr (Nat.zero_le _))); clear BK_x_aC; have BK_x_aC := BK_x_aCn; clear BK_x_aCn; have hc_x_aC_0 : w16.cell? ⟨g8, 0, none⟩ = some (.slice A6_0 l0_0.length c6_0) := (blk_cell BK_x_aC.out 0).trans rfl; have hc_x_aC_1 : w16.cell? ⟨g8, 1, none⟩ = some (.slice A6_1 l0_1.length c6_1) := (blk_cell BK_x_aC.out 1).trans rfl; have hc_x_aC_2 : w16.cell? ⟨g8, 2, none⟩ = some (.slice A6_2 l0_2.length c6_2) := (blk_cell BK_x_aC.out 2).trans rfl; have hc_x_aC_3 : w16.cell? ⟨g8, 3, none⟩ = some (.slice A6_3 l0_3.length c6_3) := (blk_cell BK_x_aC.out 3).trans rfl))
  have H6_0n := Aside0.mk (Hd.move (Hd.move (Hd.move (H6_0.out) F14.out (.inr (Nat.zero_le _))) F15.out (.inr (Nat.zero_le _))) F16.out (.inr (Nat.zero_le _)))
  clear H6_0
  have H6_0 := H6_0n
  clear H6_0n
  have H6_1n := Aside0.mk (Hd.move (Hd.move (Hd.move (H6_1.out) F14.out (.inr (Nat.zero_le _))) F15.out (.inr (Nat.zero_le _))) F16.out (.inr (Nat.zero_le _)))
  clear H6_1
  have H6_1 := H6_1n
  clear H6_1n
  have H6_2n := Aside0.mk (Hd.move (Hd.move (Hd.move (H6_2.out) F14.out (.inr (Nat.zero_le _))) F15.out (.inr (Nat.zero_le _))) F16.out (.inr (Nat.zero_le _)))
  clear H6_2
  have H6_2 := H6_2n
  clear H6_2n
  have H6_3n := Aside0.mk (Hd.move (Hd.move (Hd.move (H6_3.out) F14.out (.inr (Nat.zero_le _))) F15.out (.inr (Nat.zero_le _))) F16.out (.inr (Nat.zero_le _)))
  clear H6_3
  have H6_3 := H6_3n
  clear H6_3n
  go_wp2_with (first | (go_at_call 33; (with_reducible refine (laws_markCase.calls k (fun k_ => some k_ = (.slice A6_0 l0_0.length c6_0 : Value).ownBlock) _ l0_0 (fun k_ => some k_ = (.slice A6_1 l0_1.length c6_1 : Value).ownBlock) _ l0_1 (fun k_ => some k_ = (.slice A6_2 l0_2.length c6_2 : Value).ownBlock) _ l0_2 (fun k_ => some k_ = (.slice A6_3 l0_3.length c6_3 : Value).ownBlock) _ l0_3 (1) k0 ml0_0 ml0_1 ml0_2 ml0_3 w (w16) HB.out (Hd.tight H6_0.out rfl) P6_0_1.out P6_0_2.out P6_0_3.out (Hd.tight H6_1.out rfl) P6_1_0.out P6_1_2.out P6_1_3.out (Hd.tight H6_2.out rfl) P6_2_0.out P6_2_1.out P6_2_3.out (Hd.tight H6_3.out rfl) P6_3_0.out P6_3_1.out P6_3_2.out (F_mkaC.out)).mono ?_); rintro e w17 ⟨rfl, hm0, hm1, hm2, hm3, hb, hk⟩; have K17 := Aside0.mk hk; have KB17 := Aside0.mk hb; have M17_0 := Aside0.mk hm0; have M17_1 := Aside0.mk hm1; have M17_2 := Aside0.mk hm2; have M17_3 := Aside0.mk hm3; clear hb hk hm0 hm1 hm2 hm3; have F17 := Aside0.mk (Fr.of_kept K17.out (p := w5.heap.size) (q := w6.heap.size) (fun k_ hk => hk.elim (fun hk => (by have := Hd.within H6_0.out k_ hk; have := N6_0.out; omega)) (fun hk => hk.elim (fun hk => (by have := Hd.within H6_1.out k_ hk; have := N6_1.out; omega)) (fun hk => hk.elim (fun hk => (by have := Hd.within H6_2.out k_ hk; have := N6_2.out; omega)) (fun hk => (by have := Hd.within H6_3.out k_ hk; have := N6_3.out; omega)))))); have HBn := Aside0.mk (KB17.out); clear HB; have HB := HBn; clear HBn; have G17 := Aside0.mk F17.out.1; have HB17 := Aside0.mk HB.out.size; clear H6_0 H6_1 H6_2 H6_3 M17_0 M17_1 M17_2 M17_3))
  have H9_0n := Aside0.mk (Hd.move (Hd.move (H9_0.out) F16.out (.inr (Nat.zero_le _))) F17.out (by have := N9_0.out; have := G7.out; have := G8.out; right; omega))
  clear H9_0
  have H9_0 := H9_0n
  clear H9_0n
  go_wp2_with (first | (go_at_call 16; (with_reducible refine (laws_markIntS.calls k (fun k_ => some k_ = (.slice A9_0 l1.length c9_0 : Value).ownBlock) _ l1 (k0) k1 ml1 w (w17) HB.out (Hd.tight H9_0.out rfl) (F_mkaRates.out)).mono ?_); rintro e w18 ⟨rfl, hm0, hb, hk⟩; have K18 := Aside0.mk hk; have KB18 := Aside0.mk hb; have M18_0 := Aside0.mk hm0; clear hb hk hm0; have F18 := Aside0.mk (Fr.of_kept K18.out (p := w8.heap.size) (q := w9.heap.size) (fun k_ hk => (by have := Hd.within H9_0.out k_ hk; have := N9_0.out; omega))); have HBn := Aside0.mk (KB18.out); clear HB; have HB := HBn; clear HBn; have G18 := Aside0.mk F18.out.1; have HB18 := Aside0.mk HB.out.size; clear H9_0 M18_0))
  have H10_0n := Aside0.mk (Hd.move (Hd.move (Hd.move (Hd.move (Hd.move (Hd.move (Hd.move (Hd.move (H10_0.out) F11.out (.inr (Nat.zero_le _))) F12.out (.inr (Nat.zero_le _))) F13.out (.inr (Nat.zero_le _))) F14.out (.inr (Nat.zero_le _))) F15.out (.inr (Nat.zero_le _))) F16.out (.inr (Nat.zero_le _))) F17.out (by have := N10_0.out; have := G7.out; have := G8.out; have := G9.out; right; omega)) F18.out (by have := N10_0.out; right; omega))
  clear H10_0
  have H10_0 := H10_0n
  clear H10_0n
  have H5_0n := Aside0.mk (Hd.move (Hd.move (Hd.move (Hd.move (Hd.move (Hd.move (Hd.move (Hd.move (H5_0.out) F11.out (.inr (Nat.zero_le _))) F12.out (.inr (Nat.zero_le _))) F13.out (.inr (Nat.zero_le _))) F14.out (.inr (Nat.zero_le _))) F15.out (.inr (Nat.zero_le _))) F16.out (.inr (Nat.zero_le _))) F17.out (by have := N5_0.out; left; omega)) F18.out (by have := N5_0.out; have := G6.out; have := G7.out; have := G8.out; left; omega))
  clear H5_0
  have H5_0 := H5_0n
  clear H5_0n
  go_wp2_with (first | (go_at_call 13; (with_reducible refine (laws_eqIntS.calls k _ _ R _ _ R true (w18) (Hd.C H10_0.out) (Hd.cap H10_0.out) (Hd.C H5_0.out) (Hd.cap H5_0.out) (F_eqR.out)).mono ?_); rintro e w19 ⟨rfl, hd⟩; have D19 := Aside0.mk hd.below; clear hd; have F19 := Aside0.mk (Fr.of_below D19.out); have HBn := Aside0.mk (below_step HB.out D19.out); clear HB; have HB := HBn; clear HBn; have G19 := Aside0.mk F19.out.1; have HB19 := Aside0.mk HB.out.size))
  have H10_0n := Aside0.mk (Hd.move (H10_0.out) F19.out (.inr (Nat.zero_le _)))
  clear H10_0
  have H10_0 := H10_0n
  clear H10_0n
  go_wp2_with (first | (go_at_call 16; (with_reducible refine (laws_markIntS.calls k (fun k_ => some k_ = (.slice A10_0 R.length c10_0 : Value).ownBlock) _ R (1) m mR w (w19) HB.out (Hd.tight H10_0.out rfl) (F_mkR.out)).mono ?_); rintro e w20 ⟨rfl, hm0, hb, hk⟩; have K20 := Aside0.mk hk; have KB20 := Aside0.mk hb; have M20_0 := Aside0.mk hm0; clear hb hk hm0; have F20 := Aside0.mk (Fr.of_kept K20.out (p := w9.heap.size) (q := w10.heap.size) (fun k_ hk => (by have := Hd.within H10_0.out k_ hk; have := N10_0.out; omega))); have HBn := Aside0.mk (KB20.out); clear HB; have HB := HBn; clear HBn; have G20 := Aside0.mk F20.out.1; have HB20 := Aside0.mk HB.out.size; have H10_0n := Aside0.mk (show Hd (Kd.int .i64) 3 w20 w.heap.size a10_0 b10_0 (.slice A10_0 mR.length c10_0) mR from by rw [L_lnR.out]; exact Hd.marked H10_0.out rfl M20_0.out); clear H10_0 M20_0; have H10_0 := H10_0n; clear H10_0n))
  have KC21 := Aside0.mk (laws_heldIntS.calls k _ _ mR (1) m (w20) (Hd.C H10_0.out) (Hd.cap H10_0.out) (F_held.out))
  rw [L_lnR.out] at KC21
  go_wp2_with (first | (go_at_call 17; (with_reducible refine (KC21.out).mono ?_); rintro e w21 ⟨rfl, hd⟩; have D21 := Aside0.mk hd.below; clear hd; have F21 := Aside0.mk (Fr.of_below D21.out); have HBn := Aside0.mk (below_step HB.out D21.out); clear HB; have HB := HBn; clear HBn; have G21 := Aside0.mk F21.out.1; have HB21 := Aside0.mk HB.out.size; have BK_paCn := Aside0.mk (Fr.blk (Fr.blk (Fr.blk (Fr.blk (Fr.blk (Fr.blk (Fr.blk (Fr.blk (Fr.blk (Fr.blk (BK_paC.out) F12.out (.inr (Nat.zero_le _))) F13.out (.inr (Nat.zero_le _))) F14.out (.inr (Nat.zero_le _))) F15.out (.inr (Nat.zero_le _))) F16.out (.inr (Nat.zero_le _))) F17.out (by have := NB_paC.out; have := G2.out; have := G3.out; have := G4.out; have := G5.out; left; omega)) F18.out (by have := NB_paC.out; have := G2.out; have := G3.out; have := G4.out; have := G5.out; have := G6.out; have := G7.out; have := G8.out; left; omega)) F19.out (.inr (Nat.zero_le _))) F20.out (by have := NB_paC.out; have := G2.out; have := G3.out; have := G4.out; have := G5.out; have := G6.out; have := G7.out; have := G8.out; have := G9.out; left; omega)) F21.out (.inr (Nat.zero_le _))); clear BK_paC; have BK_paC := BK_paCn; clear BK_paCn; have hc_paC_0 : w21.cell? ⟨g2, 0, none⟩ = some (.slice A0_0 l0_0.length c0_0) := (blk_cell BK_paC.out 0).trans rfl; have hc_paC_1 : w21.cell? ⟨g2, 1, none⟩ = some (.slice A0_1 l0_1.length c0_1) := (blk_cell BK_paC.out 1).trans rfl; have hc_paC_2 : w21.cell? ⟨g2, 2, none⟩ = some (.slice A0_2 l0_2.length c0_2) := (blk_cell BK_paC.out 2).trans rfl; have hc_paC_3 : w21.cell? ⟨g2, 3, none⟩ = some (.slice A0_3 l0_3.length c0_3) := (blk_cell BK_paC.out 3).trans rfl))
  go_wp2_with (first | (go_at_call 28; (with_reducible refine (laws_toCase.calls k _ _ l0_0 _ _ l0_1 _ _ l0_2 _ _ l0_3 l0_0 l0_1 l0_2 l0_3 (w21) (Kd.C_below HR0_0.out HB.out) HC0_0.out (Kd.C_below HR0_1.out HB.out) HC0_1.out (Kd.C_below HR0_2.out HB.out) HC0_2.out (Kd.C_below HR0_3.out HB.out) HC0_3.out (F_toaC.out)).mono ?_); rintro e w22 ⟨v22_0, v22_1, v22_2, v22_3, rfl, hn0, hn1, hn2, hn3, hb⟩; have D22 := Aside0.mk hb; clear hb; have M22_0 := Aside0.mk hn0; clear hn0; have M22_1 := Aside0.mk hn1; clear hn1; have M22_2 := Aside0.mk hn2; clear hn2; have M22_3 := Aside0.mk hn3; clear hn3; have F22 := Aside0.mk (Fr.of_below D22.out); have HBn := Aside0.mk (below_step HB.out D22.out); clear HB; have HB := HBn; clear HBn; have G22 := Aside0.mk F22.out.1; have HB22 := Aside0.mk HB.out.size; obtain ⟨a22_0, b22_0, N22_0, H22_0⟩ := Hd.new M22_0.out (B := w.heap.size) HB21.out G22.out; have N22_0 := Aside0.mk N22_0; have H22_0 := Aside0.mk H22_0; obtain ⟨a22_1, b22_1, N22_1, H22_1⟩ := Hd.new M22_1.out (B := w.heap.size) HB21.out G22.out; have N22_1 := Aside0.mk N22_1; have H22_1 := Aside0.mk H22_1; obtain ⟨a22_2, b22_2, N22_2, H22_2⟩ := Hd.new M22_2.out (B := w.heap.size) HB21.out G22.out; have N22_2 := Aside0.mk N22_2; have H22_2 := Aside0.mk H22_2; obtain ⟨a22_3, b22_3, N22_3, H22_3⟩ := Hd.new M22_3.out (B := w.heap.size) HB21.out G22.out; have N22_3 := Aside0.mk N22_3; have H22_3 := Aside0.mk H22_3; have P22_0_1 := Aside0.mk (show ∀ k_, some k_ = (v22_0 : Value).ownBlock → ¬ some k_ = (v22_1 : Value).ownBlock from fun k_ h1 h2 => (M22_0.out.1 k_ h1.symm).1 h2); have P22_0_2 := Aside0.mk (show ∀ k_, some k_ = (v22_0 : Value).ownBlock → ¬ some k_ = (v22_2 : Value).ownBlock from fun k_ h1 h2 => (M22_0.out.1 k_ h1.symm).2.1 h2); have P22_0_3 := Aside0.mk (show ∀ k_, some k_ = (v22_0 : Value).ownBlock → ¬ some k_ = (v22_3 : Value).ownBlock from fun k_ h1 h2 => (M22_0.out.1 k_ h1.symm).2.2 h2); have P22_1_0 := Aside0.mk (show ∀ k_, some k_ = (v22_1 : Value).ownBlock → ¬ some k_ = (v22_0 : Value).ownBlock from fun k_ h1 h2 => (M22_1.out.1 k_ h1.symm).1 h2); have P22_1_2 := Aside0.mk (show ∀ k_, some k_ = (v22_1 : Value).ownBlock → ¬ some k_ = (v22_2 : Value).ownBlock from fun k_ h1 h2 => (M22_1.out.1 k_ h1.symm).2.1 h2); have P22_1_3 := Aside0.mk (show ∀ k_, some k_ = (v22_1 : Value).ownBlock → ¬ some k_ = (v22_3 : Value).ownBlock from fun k_ h1 h2 => (M22_1.out.1 k_ h1.symm).2.2 h2); have P22_2_0 := Aside0.mk (show ∀ k_, some k_ = (v22_2 : Value).ownBlock → ¬ some k_ = (v22_0 : Value).ownBlock from fun k_ h1 h2 => (M22_2.out.1 k_ h1.symm).1 h2); have P22_2_1 := Aside0.mk (show ∀ k_, some k_ = (v22_2 : Value).ownBlock → ¬ some k_ = (v22_1 : Value).ownBlock from fun k_ h1 h2 => (M22_2.out.1 k_ h1.symm).2.1 h2); have P22_2_3 := Aside0.mk (show ∀ k_, some k_ = (v22_2 : Value).ownBlock → ¬ some k_ = (v22_3 : Value).ownBlock from fun k_ h1 h2 => (M22_2.out.1 k_ h1.symm).2.2 h2); have P22_3_0 := Aside0.mk (show ∀ k_, some k_ = (v22_3 : Value).ownBlock → ¬ some k_ = (v22_0 : Value).ownBlock from fun k_ h1 h2 => (M22_3.out.1 k_ h1.symm).1 h2); have P22_3_1 := Aside0.mk (show ∀ k_, some k_ = (v22_3 : Value).ownBlock → ¬ some k_ = (v22_1 : Value).ownBlock from fun k_ h1 h2 => (M22_3.out.1 k_ h1.symm).2.1 h2); have P22_3_2 := Aside0.mk (show ∀ k_, some k_ = (v22_3 : Value).ownBlock → ¬ some k_ = (v22_2 : Value).ownBlock from fun k_ h1 h2 => (M22_3.out.1 k_ h1.symm).2.2 h2); clear M22_0 M22_1 M22_2 M22_3; obtain ⟨A22_0, c22_0, e22_0⟩ := Hd.form H22_0.out; subst e22_0; obtain ⟨A22_1, c22_1, e22_1⟩ := Hd.form H22_1.out; subst e22_1; obtain ⟨A22_2, c22_2, e22_2⟩ := Hd.form H22_2.out; subst e22_2; obtain ⟨A22_3, c22_3, e22_3⟩ := Hd.form H22_3.out; subst e22_3))
  go_wp2_with (first | (go_at_call 11; (with_reducible refine (laws_toIntS.calls k _ _ l1 l1 (w22) (Kd.C_below HR1.out HB.out) HC1.out (F_toaRates.out)).mono ?_); rintro e w23 ⟨v23_0, rfl, hn0, hb⟩; have D23 := Aside0.mk hb; clear hb; have M23_0 := Aside0.mk hn0; clear hn0; have F23 := Aside0.mk (Fr.of_below D23.out); have HBn := Aside0.mk (below_step HB.out D23.out); clear HB; have HB := HBn; clear HBn; have G23 := Aside0.mk F23.out.1; have HB23 := Aside0.mk HB.out.size; obtain ⟨a23_0, b23_0, N23_0, H23_0⟩ := Hd.new M23_0.out (B := w.heap.size) HB22.out G23.out; have N23_0 := Aside0.mk N23_0; have H23_0 := Aside0.mk H23_0; clear M23_0; obtain ⟨A23_0, c23_0, e23_0⟩ := Hd.form H23_0.out; subst e23_0))
  have H22_0n := Aside0.mk (Hd.move (H22_0.out) F23.out (.inr (Nat.zero_le _)))
  clear H22_0
  have H22_0 := H22_0n
  clear H22_0n
  have H22_1n := Aside0.mk (Hd.move (H22_1.out) F23.out (.inr (Nat.zero_le _)))
  clear H22_1
  have H22_1 := H22_1n
  clear H22_1n
  have H22_2n := Aside0.mk (Hd.move (H22_2.out) F23.out (.inr (Nat.zero_le _)))
  clear H22_2
  have H22_2 := H22_2n
  clear H22_2n
  have H22_3n := Aside0.mk (Hd.move (H22_3.out) F23.out (.inr (Nat.zero_le _)))
  clear H22_3
  have H22_3 := H22_3n
  clear H22_3n
  go_wp2_with (first | (go_at_call 32; (with_reducible refine (impl_BestLatePlan.calls k _ _ l0_0 _ _ l0_1 _ _ l0_2 _ _ l0_3 _ _ l1 R b (w23) (Hd.C H22_0.out) (Hd.cap H22_0.out) (Hd.C H22_1.out) (Hd.cap H22_1.out) (Hd.C H22_2.out) (Hd.cap H22_2.out) (Hd.C H22_3.out) (Hd.cap H22_3.out) (Hd.C H23_0.out) (Hd.cap H23_0.out) (F_impl.out)).mono ?_); rintro e w24 ⟨v24_0, rfl, hn0, hb⟩; have D24 := Aside0.mk hb; clear hb; have M24_0 := Aside0.mk hn0; clear hn0; have F24 := Aside0.mk (Fr.of_below D24.out); have HBn := Aside0.mk (below_step HB.out D24.out); clear HB; have HB := HBn; clear HBn; have G24 := Aside0.mk F24.out.1; have HB24 := Aside0.mk HB.out.size; obtain ⟨a24_0, b24_0, N24_0, H24_0⟩ := Hd.new M24_0.out (B := w.heap.size) HB23.out G24.out; have N24_0 := Aside0.mk N24_0; have H24_0 := Aside0.mk H24_0; clear M24_0; obtain ⟨A24_0, c24_0, e24_0⟩ := Hd.form H24_0.out; subst e24_0))
  have H5_0n := Aside0.mk (Hd.move (Hd.move (Hd.move (Hd.move (Hd.move (Hd.move (H5_0.out) F19.out (.inr (Nat.zero_le _))) F20.out (by have := N5_0.out; have := G6.out; have := G7.out; have := G8.out; have := G9.out; left; omega)) F21.out (.inr (Nat.zero_le _))) F22.out (.inr (Nat.zero_le _))) F23.out (.inr (Nat.zero_le _))) F24.out (.inr (Nat.zero_le _)))
  clear H5_0
  have H5_0 := H5_0n
  clear H5_0n
  go_wp2_with (first | (go_at_call 13; (with_reducible refine (laws_eqIntS.calls k _ _ R _ _ R true (w24) (Hd.C H24_0.out) (Hd.cap H24_0.out) (Hd.C H5_0.out) (Hd.cap H5_0.out) (F_eqR.out)).mono ?_); rintro e w25 ⟨rfl, hd⟩; have D25 := Aside0.mk hd.below; clear hd; have F25 := Aside0.mk (Fr.of_below D25.out); have HBn := Aside0.mk (below_step HB.out D25.out); clear HB; have HB := HBn; clear HBn; have G25 := Aside0.mk F25.out.1; have HB25 := Aside0.mk HB.out.size))
  have H10_0n := Aside0.mk (Hd.move (Hd.move (Hd.move (Hd.move (Hd.move (H10_0.out) F21.out (.inr (Nat.zero_le _))) F22.out (.inr (Nat.zero_le _))) F23.out (.inr (Nat.zero_le _))) F24.out (.inr (Nat.zero_le _))) F25.out (.inr (Nat.zero_le _)))
  clear H10_0
  have H10_0 := H10_0n
  clear H10_0n
  have KC26 := Aside0.mk (laws_heldIntS.calls k _ _ mR (1) m (w25) (Hd.C H10_0.out) (Hd.cap H10_0.out) (F_held.out))
  rw [L_lnR.out] at KC26
  go_wp2_with (first | (go_at_call 17; (with_reducible refine (KC26.out).mono ?_); rintro e w26 ⟨rfl, hd⟩; have D26 := Aside0.mk hd.below; clear hd; have F26 := Aside0.mk (Fr.of_below D26.out); have HBn := Aside0.mk (below_step HB.out D26.out); clear HB; have HB := HBn; clear HBn; have G26 := Aside0.mk F26.out.1; have HB26 := Aside0.mk HB.out.size))
  go_ret
  exact ⟨by first | rfl | (simp; done), HB.out⟩
set_option maxRecDepth 100000 in
theorem laws_FnExactBestLatePlan.large0 (k : Nat) (A0_0 : Option Addr) (c0_0 : Nat) (l0_0 : List Int) (A0_1 : Option Addr) (c0_1 : Nat) (l0_1 : List Int) (A0_2 : Option Addr) (c0_2 : Nat) (l0_2 : List Int) (A0_3 : Option Addr) (c0_3 : Nat) (l0_3 : List Int) (A1 : Option Addr) (c1 : Nat) (l1 : List Int) (w : World) (hr0_0 : Kd.C (Kd.int .i64) w A0_0 l0_0.length l0_0) (hc0_0 : l0_0.length ≤ c0_0) (hr0_1 : Kd.C (Kd.int .i64) w A0_1 l0_1.length l0_1) (hc0_1 : l0_1.length ≤ c0_1) (hr0_2 : Kd.C (Kd.int .i64) w A0_2 l0_2.length l0_2) (hc0_2 : l0_2.length ≤ c0_2) (hr0_3 : Kd.C (Kd.int .i64) w A0_3 l0_3.length l0_3) (hc0_3 : l0_3.length ≤ c0_3) (hr1 : Kd.C (Kd.int .i64) w A1 l1.length l1) (hc1 : l1.length ≤ c1)  (f_lenp : (l1.length : Int) > 1048576) :
    Calls Try.prog 9 #[.agg #[.slice A0_0 l0_0.length c0_0, .slice A0_1 l0_1.length c0_1, .slice A0_2 l0_2.length c0_2, .slice A0_3 l0_3.length c0_3], .slice A1 l1.length c1] w fun e w' => e = .returned (.bool true) ∧ Below w.heap.size w w' := by
  have HR0_0 := Aside0.mk hr0_0
  have HC0_0 := Aside0.mk hc0_0
  clear hr0_0 hc0_0
  have HR0_1 := Aside0.mk hr0_1
  have HC0_1 := Aside0.mk hc0_1
  clear hr0_1 hc0_1
  have HR0_2 := Aside0.mk hr0_2
  have HC0_2 := Aside0.mk hc0_2
  clear hr0_2 hc0_2
  have HR0_3 := Aside0.mk hr0_3
  have HC0_3 := Aside0.mk hc0_3
  clear hr0_3 hc0_3
  have HR1 := Aside0.mk hr1
  have HC1 := Aside0.mk hc1
  clear hr1 hc1
  have HB := Aside0.mk (Below.refl w.heap.size w)
  have HB0 := Aside0.mk HB.out.size
  have t_lenp : decide (1048576 < ((l1.length : Int))) = true := decide_eq_true f_lenp
  clear f_lenp
  go_enter Try.func9, Try.ntmps9
  go_wp2_with (first | ((with_reducible refine gate_dst (N := 2) rfl ?_); refine box_event ?hg (N := 2) ?hd (cs := #[.slice A0_0 l0_0.length c0_0, .slice A0_1 l0_1.length c0_1, .slice A0_2 l0_2.length c0_2, .slice A0_3 l0_3.length c0_3]) (t := 42) ?hr ?_; (case hd => rfl); (case hg => rfl); (case hr => first | (go_simp; done) | (go_simp; rfl)); intro g2 hg w1 hbox hb; have BK_paC := Aside0.mk hbox; have NB_paC := Aside0.mk (show w.heap.size ≤ g2 ∧ g2 < w1.heap.size from ⟨Nat.le_of_eq hg.symm, blk_lt hbox⟩); have D1 := Aside0.mk hb; clear hbox hg hb; have F1 := Aside0.mk (Fr.of_below D1.out); have HBn := Aside0.mk (below_step HB.out D1.out); clear HB; have HB := HBn; clear HBn; have G1 := Aside0.mk F1.out.1; have HB1 := Aside0.mk HB.out.size; clear D1; have hc_paC_0 : w1.cell? ⟨g2, 0, none⟩ = some (.slice A0_0 l0_0.length c0_0) := (blk_cell BK_paC.out 0).trans rfl; have hc_paC_1 : w1.cell? ⟨g2, 1, none⟩ = some (.slice A0_1 l0_1.length c0_1) := (blk_cell BK_paC.out 1).trans rfl; have hc_paC_2 : w1.cell? ⟨g2, 2, none⟩ = some (.slice A0_2 l0_2.length c0_2) := (blk_cell BK_paC.out 2).trans rfl; have hc_paC_3 : w1.cell? ⟨g2, 3, none⟩ = some (.slice A0_3 l0_3.length c0_3) := (blk_cell BK_paC.out 3).trans rfl))
  go_wp2
  go_ret
  exact ⟨by first | rfl | (simp; done), HB.out⟩
set_option maxRecDepth 100000 in
theorem laws_FnExactBestLatePlan.large1 (k : Nat) (A0_0 : Option Addr) (c0_0 : Nat) (l0_0 : List Int) (A0_1 : Option Addr) (c0_1 : Nat) (l0_1 : List Int) (A0_2 : Option Addr) (c0_2 : Nat) (l0_2 : List Int) (A0_3 : Option Addr) (c0_3 : Nat) (l0_3 : List Int) (A1 : Option Addr) (c1 : Nat) (l1 : List Int) (w : World) (hr0_0 : Kd.C (Kd.int .i64) w A0_0 l0_0.length l0_0) (hc0_0 : l0_0.length ≤ c0_0) (hr0_1 : Kd.C (Kd.int .i64) w A0_1 l0_1.length l0_1) (hc0_1 : l0_1.length ≤ c0_1) (hr0_2 : Kd.C (Kd.int .i64) w A0_2 l0_2.length l0_2) (hc0_2 : l0_2.length ≤ c0_2) (hr0_3 : Kd.C (Kd.int .i64) w A0_3 l0_3.length l0_3) (hc0_3 : l0_3.length ≤ c0_3) (hr1 : Kd.C (Kd.int .i64) w A1 l1.length l1) (hc1 : l1.length ≤ c1) (q0 : Int) (f_len_aRates : ¬ (l1.length : Int) > 1048576) (f_sz0 : laws_szCase.f l0_0 l0_1 l0_2 l0_3 (1048576) = some q0) (f_neg : q0 < 0) :
    Calls Try.prog 9 #[.agg #[.slice A0_0 l0_0.length c0_0, .slice A0_1 l0_1.length c0_1, .slice A0_2 l0_2.length c0_2, .slice A0_3 l0_3.length c0_3], .slice A1 l1.length c1] w fun e w' => e = .returned (.bool true) ∧ Below w.heap.size w w' := by
  have HR0_0 := Aside0.mk hr0_0
  have HC0_0 := Aside0.mk hc0_0
  clear hr0_0 hc0_0
  have HR0_1 := Aside0.mk hr0_1
  have HC0_1 := Aside0.mk hc0_1
  clear hr0_1 hc0_1
  have HR0_2 := Aside0.mk hr0_2
  have HC0_2 := Aside0.mk hc0_2
  clear hr0_2 hc0_2
  have HR0_3 := Aside0.mk hr0_3
  have HC0_3 := Aside0.mk hc0_3
  clear hr0_3 hc0_3
  have HR1 := Aside0.mk hr1
  have HC1 := Aside0.mk hc1
  clear hr1 hc1
  have HB := Aside0.mk (Below.refl w.heap.size w)
  have HB0 := Aside0.mk HB.out.size
  have t_len_aRates : decide (1048576 < ((l1.length : Int))) = false := decide_eq_false f_len_aRates
  clear f_len_aRates
  have F_sz0 := Aside0.mk f_sz0
  clear f_sz0
  have t_neg : decide (q0 < 0) = true := decide_eq_true f_neg
  clear f_neg
  go_enter Try.func9, Try.ntmps9
  go_wp2_with (first | ((with_reducible refine gate_dst (N := 2) rfl ?_); refine box_event ?hg (N := 2) ?hd (cs := #[.slice A0_0 l0_0.length c0_0, .slice A0_1 l0_1.length c0_1, .slice A0_2 l0_2.length c0_2, .slice A0_3 l0_3.length c0_3]) (t := 42) ?hr ?_; (case hd => rfl); (case hg => rfl); (case hr => first | (go_simp; done) | (go_simp; rfl)); intro g2 hg w1 hbox hb; have BK_paC := Aside0.mk hbox; have NB_paC := Aside0.mk (show w.heap.size ≤ g2 ∧ g2 < w1.heap.size from ⟨Nat.le_of_eq hg.symm, blk_lt hbox⟩); have D1 := Aside0.mk hb; clear hbox hg hb; have F1 := Aside0.mk (Fr.of_below D1.out); have HBn := Aside0.mk (below_step HB.out D1.out); clear HB; have HB := HBn; clear HBn; have G1 := Aside0.mk F1.out.1; have HB1 := Aside0.mk HB.out.size; clear D1; have hc_paC_0 : w1.cell? ⟨g2, 0, none⟩ = some (.slice A0_0 l0_0.length c0_0) := (blk_cell BK_paC.out 0).trans rfl; have hc_paC_1 : w1.cell? ⟨g2, 1, none⟩ = some (.slice A0_1 l0_1.length c0_1) := (blk_cell BK_paC.out 1).trans rfl; have hc_paC_2 : w1.cell? ⟨g2, 2, none⟩ = some (.slice A0_2 l0_2.length c0_2) := (blk_cell BK_paC.out 2).trans rfl; have hc_paC_3 : w1.cell? ⟨g2, 3, none⟩ = some (.slice A0_3 l0_3.length c0_3) := (blk_cell BK_paC.out 3).trans rfl))
  go_wp2_with (first | (go_at_call 26; (with_reducible refine (laws_szCase.calls _ _ l0_0 _ _ l0_1 _ _ l0_2 _ _ l0_3 (1048576) q0 (w1) (Kd.C_below HR0_0.out HB.out) HC0_0.out (Kd.C_below HR0_1.out HB.out) HC0_1.out (Kd.C_below HR0_2.out HB.out) HC0_2.out (Kd.C_below HR0_3.out HB.out) HC0_3.out (F_sz0.out)).mono ?_); rintro e w2 ⟨rfl, hb⟩; have D2 := Aside0.mk hb; clear hb; have F2 := Aside0.mk (Fr.of_below D2.out); have HBn := Aside0.mk (below_step HB.out D2.out); clear HB; have HB := HBn; clear HBn; have G2 := Aside0.mk F2.out.1; have HB2 := Aside0.mk HB.out.size))
  go_ret
  exact ⟨by first | rfl | (simp; done), HB.out⟩
/-- What the law's calls answer. -/
def laws_FnExactBestLatePlan.Facts (k : Nat) (l0_0 : List Int) (l0_1 : List Int) (l0_2 : List Int) (l0_3 : List Int) (l1 : List Int) : Prop := (((l1.length : Int) > 1048576)) ∨ (∃ (q0 : Int), (¬ (l1.length : Int) > 1048576) ∧ (laws_szCase.f l0_0 l0_1 l0_2 l0_3 (1048576) = some q0) ∧ (q0 < 0)) ∨ laws_FnExactBestLatePlan.Good k l0_0 l0_1 l0_2 l0_3 l1
theorem laws_FnExactBestLatePlan.calls (k : Nat) (A0_0 : Option Addr) (c0_0 : Nat) (l0_0 : List Int) (A0_1 : Option Addr) (c0_1 : Nat) (l0_1 : List Int) (A0_2 : Option Addr) (c0_2 : Nat) (l0_2 : List Int) (A0_3 : Option Addr) (c0_3 : Nat) (l0_3 : List Int) (A1 : Option Addr) (c1 : Nat) (l1 : List Int) (w : World) (hr0_0 : Kd.C (Kd.int .i64) w A0_0 l0_0.length l0_0) (hc0_0 : l0_0.length ≤ c0_0) (hr0_1 : Kd.C (Kd.int .i64) w A0_1 l0_1.length l0_1) (hc0_1 : l0_1.length ≤ c0_1) (hr0_2 : Kd.C (Kd.int .i64) w A0_2 l0_2.length l0_2) (hc0_2 : l0_2.length ≤ c0_2) (hr0_3 : Kd.C (Kd.int .i64) w A0_3 l0_3.length l0_3) (hc0_3 : l0_3.length ≤ c0_3) (hr1 : Kd.C (Kd.int .i64) w A1 l1.length l1) (hc1 : l1.length ≤ c1) (h : laws_FnExactBestLatePlan.Facts k l0_0 l0_1 l0_2 l0_3 l1) :
    Calls Try.prog 9 #[.agg #[.slice A0_0 l0_0.length c0_0, .slice A0_1 l0_1.length c0_1, .slice A0_2 l0_2.length c0_2, .slice A0_3 l0_3.length c0_3], .slice A1 l1.length c1] w fun e w' => e = .returned (.bool true) ∧ Below w.heap.size w w' := by
  rcases h with f_lenp | ⟨q0, f_len_aRates, f_sz0, f_neg⟩ | h
  · exact laws_FnExactBestLatePlan.large0 k A0_0 c0_0 l0_0 A0_1 c0_1 l0_1 A0_2 c0_2 l0_2 A0_3 c0_3 l0_3 A1 c1 l1 w hr0_0 hc0_0 hr0_1 hc0_1 hr0_2 hc0_2 hr0_3 hc0_3 hr1 hc1  f_lenp
  · exact laws_FnExactBestLatePlan.large1 k A0_0 c0_0 l0_0 A0_1 c0_1 l0_1 A0_2 c0_2 l0_2 A0_3 c0_3 l0_3 A1 c1 l1 w hr0_0 hc0_0 hr0_1 hc0_1 hr0_2 hc0_2 hr0_3 hc0_3 hr1 hc1 q0 f_len_aRates f_sz0 f_neg
  · exact laws_FnExactBestLatePlan.good k A0_0 c0_0 l0_0 A0_1 c0_1 l0_1 A0_2 c0_2 l0_2 A0_3 c0_3 l0_3 A1 c1 l1 w hr0_0 hc0_0 hr0_1 hc0_1 hr0_2 hc0_2 hr0_3 hc0_3 hr1 hc1 h
end Go.Proofs.Ytnojmhcmngejnaa.PFnExactBestLatePlan
