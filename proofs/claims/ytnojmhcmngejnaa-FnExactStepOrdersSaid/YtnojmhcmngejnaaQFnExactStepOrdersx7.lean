/- Written by a program of this session (lawwalk.py): the walk of the law FnExactStepOrders, where every answer on the way is known; the facts that it asks are those of the pure statement. -/
import Derived.Test.YtnojmhcmngejnaaQFnExactStepOrdersx0
import Derived.Test.YtnojmhcmngejnaaQFnExactStepOrdersx1
import Derived.Test.YtnojmhcmngejnaaQFnExactStepOrdersx2
import Derived.Test.YtnojmhcmngejnaaQFnExactStepOrdersx3
import Derived.Test.YtnojmhcmngejnaaQFnExactStepOrdersx4
import Derived.Test.YtnojmhcmngejnaaQFnExactStepOrdersx5
import Derived.Test.YtnojmhcmngejnaaQFnExactStepOrdersx6
import Derived.Test.YtnojmhcmngejnaaHold
namespace Go.Proofs.Ytnojmhcmngejnaa.PFnExactStepOrders
open Go.RowKit Go.Proofs.YtnojmhcmngejnaaW.PrintWords Go.Proofs.YtnojmhcmngejnaaW.PrintLast Go.Proofs.YtnojmhcmngejnaaW.PrintMore Go.Proofs.Ytnojmhcmngejnaa.Hold
set_option linter.unusedVariables false
set_option linter.unusedSimpArgs false
/-- What the law's calls answer, the case not being too large. -/
def laws_FnExactStepOrders.Good (k : Nat) (l0 : List (List Int)) (a1 : Int) (a2 : Int) (a3 : Int) : Prop := ∃ (q0 : Int) (R : List Int) (b : Bool) (k0 : Int) (ml0 : List (List Int)) (m : Int) (mR : List Int), (laws_szIntSS.f k l0 (1048576) = some q0) ∧ (0 ≤ q0) ∧ (laws_toIntSS.f k l0 = some l0) ∧ (spec_StepOrders.f k l0 a1 a2 a3 = some (R, b)) ∧ (impl_StepOrders.f k l0 a1 a2 a3 = some (R, b)) ∧ (laws_eqIntS.f k R R = some true) ∧ (laws_eqIntSS.f k l0 l0 = some true) ∧ (laws_markIntSS.f k l0 (1) = some (k0, ml0)) ∧ (0 ≤ k0) ∧ (laws_markIntS.f k R 1 = some (m, mR)) ∧ (laws_heldIntS.f k mR 1 = some m) ∧ (0 ≤ m) ∧ (mR.length = R.length)
set_option maxHeartbeats 8000000 in
set_option maxRecDepth 100000 in
theorem laws_FnExactStepOrders.good (k : Nat) (A0 : Option Addr) (c0 : Nat) (l0 : List (List Int)) (a1 : Int) (a2 : Int) (a3 : Int) (w : World) (hr0 : Kd.C (Kd.slice 3 (Kd.int .i64)) w A0 l0.length l0) (hc0 : l0.length ≤ c0) (h : laws_FnExactStepOrders.Good k l0 a1 a2 a3) :
    Calls Try.prog 6 #[.slice A0 l0.length c0, .int .i64 a1, .int .i64 a2, .int .i64 a3] w fun e w' => e = .returned (.bool true) ∧ Below w.heap.size w w' := by
  have HR0 := Aside0.mk hr0
  have HC0 := Aside0.mk hc0
  clear hr0 hc0
  have HB := Aside0.mk (Below.refl w.heap.size w)
  have HB0 := Aside0.mk HB.out.size
  obtain ⟨q0, R, b, k0, ml0, m, mR, f_sz0, f_nn0, f_toaGoods, f_spec, f_impl, f_eqR, f_eqaGoods, f_mkaGoods, f_mn0, f_mkR, f_held, f_mm, f_lnR⟩ := h
  have F_sz0 := Aside0.mk f_sz0
  clear f_sz0
  have t_nn0 : decide (q0 < 0) = false := decide_eq_false (by omega)
  clear f_nn0
  have F_toaGoods := Aside0.mk f_toaGoods
  clear f_toaGoods
  have F_spec := Aside0.mk f_spec
  clear f_spec
  have F_impl := Aside0.mk f_impl
  clear f_impl
  have F_eqR := Aside0.mk f_eqR
  clear f_eqR
  have F_eqaGoods := Aside0.mk f_eqaGoods
  clear f_eqaGoods
  have F_mkaGoods := Aside0.mk f_mkaGoods
  clear f_mkaGoods
  have t_mn0 : decide (k0 < 0) = false := decide_eq_false (by omega)
  clear f_mn0
  have F_mkR := Aside0.mk f_mkR
  clear f_mkR
  have F_held := Aside0.mk f_held
  clear f_held
  have t_mm : decide (m < 0) = false := decide_eq_false (by omega)
  clear f_mm
  have L_lnR := Aside0.mk f_lnR
  clear f_lnR
  go_enter Try.func6, Try.ntmps6
  go_wp2_with (go_at_call 18; (with_reducible refine (laws_szIntSS.calls k _ _ l0 (1048576) q0 w (Kd.C_below HR0.out HB.out) HC0.out (F_sz0.out)).mono ?_); rintro e w1 ⟨rfl, hd⟩; have D1 := Aside0.mk hd.below; clear hd)
  have F1 := Aside0.mk (Fr.of_below D1.out)
  have HBn := Aside0.mk (below_step HB.out D1.out)
  clear HB
  have HB := HBn
  clear HBn
  have G1 := Aside0.mk F1.out.1
  clear D1
  have HB1 := Aside0.mk HB.out.size
  go_wp2_with (go_at_call 20; (with_reducible refine (laws_toIntSS.calls k _ _ l0 l0 w1 (Kd.C_below HR0.out HB.out) HC0.out (F_toaGoods.out)).mono ?_); rintro e w2 ⟨v2_0, rfl, hn0, hb⟩; have M2_0 := Aside0.mk hn0; have D2 := Aside0.mk hb; clear hb hn0)
  have F2 := Aside0.mk (Fr.of_below D2.out)
  have HBn := Aside0.mk (below_step HB.out D2.out)
  clear HB
  have HB := HBn
  clear HBn
  have G2 := Aside0.mk F2.out.1
  obtain ⟨a2_0, b2_0, N2_0, H2_0⟩ := Hs.new M2_0.out (B := w.heap.size) HB1.out G2.out
  have N2_0 := Aside0.mk N2_0
  have H2_0 := Aside0.mk H2_0
  clear M2_0
  obtain ⟨A2_0, c2_0, e2_0⟩ := Hs.form H2_0.out
  subst e2_0
  clear D2
  have HB2 := Aside0.mk HB.out.size
  go_wp2_with (go_at_call 19; (with_reducible refine (spec_StepOrders.calls k _ _ l0 (a1) (a2) (a3) R b w2 (Hs.C H2_0.out) (Hs.cap H2_0.out) (F_spec.out)).mono ?_); rintro e w3 ⟨v3_0, rfl, hn0, hb⟩; have M3_0 := Aside0.mk hn0; have D3 := Aside0.mk hb; clear hb hn0)
  have F3 := Aside0.mk (Fr.of_below D3.out)
  have HBn := Aside0.mk (below_step HB.out D3.out)
  clear HB
  have HB := HBn
  clear HBn
  have G3 := Aside0.mk F3.out.1
  obtain ⟨a3_0, b3_0, N3_0, H3_0⟩ := Hd.new M3_0.out (B := w.heap.size) HB2.out G3.out
  have N3_0 := Aside0.mk N3_0
  have H3_0 := Aside0.mk H3_0
  clear M3_0
  obtain ⟨A3_0, c3_0, e3_0⟩ := Hd.form H3_0.out
  subst e3_0
  clear D3
  have HB3 := Aside0.mk HB.out.size
  go_wp2_with (go_at_call 20; (with_reducible refine (laws_toIntSS.calls k _ _ l0 l0 w3 (Kd.C_below HR0.out HB.out) HC0.out (F_toaGoods.out)).mono ?_); rintro e w4 ⟨v4_0, rfl, hn0, hb⟩; have M4_0 := Aside0.mk hn0; have D4 := Aside0.mk hb; clear hb hn0)
  have F4 := Aside0.mk (Fr.of_below D4.out)
  have HBn := Aside0.mk (below_step HB.out D4.out)
  clear HB
  have HB := HBn
  clear HBn
  have G4 := Aside0.mk F4.out.1
  obtain ⟨a4_0, b4_0, N4_0, H4_0⟩ := Hs.new M4_0.out (B := w.heap.size) HB3.out G4.out
  have N4_0 := Aside0.mk N4_0
  have H4_0 := Aside0.mk H4_0
  clear M4_0
  obtain ⟨A4_0, c4_0, e4_0⟩ := Hs.form H4_0.out
  subst e4_0
  clear D4
  have HB4 := Aside0.mk HB.out.size
  go_wp2_with (go_at_call 21; (with_reducible refine (impl_StepOrders.calls k _ _ l0 (a1) (a2) (a3) R b w4 (Hs.C H4_0.out) (Hs.cap H4_0.out) (F_impl.out)).mono ?_); rintro e w5 ⟨v5_0, rfl, hn0, hb⟩; have M5_0 := Aside0.mk hn0; have D5 := Aside0.mk hb; clear hb hn0)
  have F5 := Aside0.mk (Fr.of_below D5.out)
  have HBn := Aside0.mk (below_step HB.out D5.out)
  clear HB
  have HB := HBn
  clear HBn
  have G5 := Aside0.mk F5.out.1
  obtain ⟨a5_0, b5_0, N5_0, H5_0⟩ := Hd.new M5_0.out (B := w.heap.size) HB4.out G5.out
  have N5_0 := Aside0.mk N5_0
  have H5_0 := Aside0.mk H5_0
  clear M5_0
  obtain ⟨A5_0, c5_0, e5_0⟩ := Hd.form H5_0.out
  subst e5_0
  clear D5
  have HB5 := Aside0.mk HB.out.size
  have H3_0n := Aside0.mk (Hd.move (Hd.move (H3_0.out) F4.out (.inr (Nat.zero_le _))) F5.out (.inr (Nat.zero_le _)))
  clear H3_0
  have H3_0 := H3_0n
  clear H3_0n
  go_wp2_with (go_at_call 13; (with_reducible refine (laws_eqIntS.calls k _ _ R _ _ R true w5 (Hd.C H5_0.out) (Hd.cap H5_0.out) (Hd.C H3_0.out) (Hd.cap H3_0.out) (F_eqR.out)).mono ?_); rintro e w6 ⟨rfl, hd⟩; have D6 := Aside0.mk hd.below; clear hd)
  have F6 := Aside0.mk (Fr.of_below D6.out)
  have HBn := Aside0.mk (below_step HB.out D6.out)
  clear HB
  have HB := HBn
  clear HBn
  have G6 := Aside0.mk F6.out.1
  clear D6
  have HB6 := Aside0.mk HB.out.size
  go_wp2_with (go_at_call 20; (with_reducible refine (laws_toIntSS.calls k _ _ l0 l0 w6 (Kd.C_below HR0.out HB.out) HC0.out (F_toaGoods.out)).mono ?_); rintro e w7 ⟨v7_0, rfl, hn0, hb⟩; have M7_0 := Aside0.mk hn0; have D7 := Aside0.mk hb; clear hb hn0)
  have F7 := Aside0.mk (Fr.of_below D7.out)
  have HBn := Aside0.mk (below_step HB.out D7.out)
  clear HB
  have HB := HBn
  clear HBn
  have G7 := Aside0.mk F7.out.1
  obtain ⟨a7_0, b7_0, N7_0, H7_0⟩ := Hs.new M7_0.out (B := w.heap.size) HB6.out G7.out
  have N7_0 := Aside0.mk N7_0
  have H7_0 := Aside0.mk H7_0
  clear M7_0
  obtain ⟨A7_0, c7_0, e7_0⟩ := Hs.form H7_0.out
  subst e7_0
  clear D7
  have HB7 := Aside0.mk HB.out.size
  have H4_0n := Aside0.mk (Hs.move (Hs.move (Hs.move (H4_0.out) F5.out (.inr (Nat.zero_le _))) F6.out (.inr (Nat.zero_le _))) F7.out (.inr (Nat.zero_le _)))
  clear H4_0
  have H4_0 := H4_0n
  clear H4_0n
  go_wp2_with (go_at_call 22; (with_reducible refine (laws_eqIntSS.calls k _ _ l0 _ _ l0 true w7 (Hs.C H4_0.out) (Hs.cap H4_0.out) (Hs.C H7_0.out) (Hs.cap H7_0.out) (F_eqaGoods.out)).mono ?_); rintro e w8 ⟨rfl, hd⟩; have D8 := Aside0.mk hd.below; clear hd)
  have F8 := Aside0.mk (Fr.of_below D8.out)
  have HBn := Aside0.mk (below_step HB.out D8.out)
  clear HB
  have HB := HBn
  clear HBn
  have G8 := Aside0.mk F8.out.1
  clear D8
  have HB8 := Aside0.mk HB.out.size
  have H4_0n := Aside0.mk (Hs.move (H4_0.out) F8.out (.inr (Nat.zero_le _)))
  clear H4_0
  have H4_0 := H4_0n
  clear H4_0n
  go_wp2_with (go_at_call 23; (with_reducible refine (laws_markIntSS.calls k (fun k_ => a4_0 ≤ k_ ∧ k_ < b4_0) _ l0 (1) k0 ml0 w w8 HB.out (Hs.own H4_0.out) (F_mkaGoods.out)).mono ?_); rintro e w9 ⟨rfl, hm0, hb, hk⟩; have M9_0 := Aside0.mk hm0; have K9 := Aside0.mk hk; have HBn := Aside0.mk hb; clear hb hk hm0)
  have F9 := Aside0.mk (Fr.of_kept K9.out (p := a4_0) (q := b4_0) (fun k_ hk => hk))
  clear K9
  clear HB
  have HB := HBn
  clear HBn
  clear H4_0 M9_0
  have G9 := Aside0.mk F9.out.1
  have HB9 := Aside0.mk HB.out.size
  have H5_0n := Aside0.mk (Hd.move (Hd.move (Hd.move (Hd.move (H5_0.out) F6.out (.inr (Nat.zero_le _))) F7.out (.inr (Nat.zero_le _))) F8.out (.inr (Nat.zero_le _))) F9.out (by have := G1.out; have := G2.out; have := N2_0.out; have := G3.out; have := N3_0.out; have := G4.out; have := N4_0.out; have := G5.out; have := N5_0.out; have := G6.out; have := G7.out; have := N7_0.out; have := G8.out; have := G9.out; first | (left; omega) | (right; omega)))
  clear H5_0
  have H5_0 := H5_0n
  clear H5_0n
  have H3_0n := Aside0.mk (Hd.move (Hd.move (Hd.move (Hd.move (H3_0.out) F6.out (.inr (Nat.zero_le _))) F7.out (.inr (Nat.zero_le _))) F8.out (.inr (Nat.zero_le _))) F9.out (by have := G1.out; have := G2.out; have := N2_0.out; have := G3.out; have := N3_0.out; have := G4.out; have := N4_0.out; have := G5.out; have := N5_0.out; have := G6.out; have := G7.out; have := N7_0.out; have := G8.out; have := G9.out; first | (left; omega) | (right; omega)))
  clear H3_0
  have H3_0 := H3_0n
  clear H3_0n
  go_wp2_with (go_at_call 13; (with_reducible refine (laws_eqIntS.calls k _ _ R _ _ R true w9 (Hd.C H5_0.out) (Hd.cap H5_0.out) (Hd.C H3_0.out) (Hd.cap H3_0.out) (F_eqR.out)).mono ?_); rintro e w10 ⟨rfl, hd⟩; have D10 := Aside0.mk hd.below; clear hd)
  have F10 := Aside0.mk (Fr.of_below D10.out)
  have HBn := Aside0.mk (below_step HB.out D10.out)
  clear HB
  have HB := HBn
  clear HBn
  have G10 := Aside0.mk F10.out.1
  clear D10
  have HB10 := Aside0.mk HB.out.size
  have H5_0n := Aside0.mk (Hd.move (H5_0.out) F10.out (.inr (Nat.zero_le _)))
  clear H5_0
  have H5_0 := H5_0n
  clear H5_0n
  go_wp2_with (go_at_call 16; (with_reducible refine (laws_markIntS.calls k (fun k_ => some k_ = (.slice A5_0 R.length c5_0 : Value).ownBlock) _ R (1) m mR w w10 HB.out (Hd.tight H5_0.out rfl) (F_mkR.out)).mono ?_); rintro e w11 ⟨rfl, hm0, hb, hk⟩; have M11_0 := Aside0.mk hm0; have K11 := Aside0.mk hk; have HBn := Aside0.mk hb; clear hb hk hm0)
  have F11 := Aside0.mk (Fr.of_kept K11.out (p := a5_0) (q := b5_0) (fun k_ hk => Hd.within H5_0.out k_ hk))
  clear K11
  clear HB
  have HB := HBn
  clear HBn
  have H5_0n := Aside0.mk (show Hd (Kd.int .i64) 3 w11 w.heap.size a5_0 b5_0 (.slice A5_0 mR.length c5_0) mR from by rw [L_lnR.out]; exact Hd.marked H5_0.out rfl M11_0.out)
  clear H5_0 M11_0
  have H5_0 := H5_0n
  clear H5_0n
  have G11 := Aside0.mk F11.out.1
  have HB11 := Aside0.mk HB.out.size
  have KC12 := Aside0.mk (laws_heldIntS.calls k _ _ mR (1) m w11 (Hd.C H5_0.out) (Hd.cap H5_0.out) (F_held.out))
  rw [L_lnR.out] at KC12
  go_wp2_with (go_at_call 17; (with_reducible refine KC12.out.mono ?_); rintro e w12 ⟨rfl, hd⟩; have D12 := Aside0.mk hd.below; clear hd)
  have F12 := Aside0.mk (Fr.of_below D12.out)
  have HBn := Aside0.mk (below_step HB.out D12.out)
  clear HB
  have HB := HBn
  clear HBn
  have G12 := Aside0.mk F12.out.1
  clear D12
  have HB12 := Aside0.mk HB.out.size
  go_wp2_with (go_at_call 20; (with_reducible refine (laws_toIntSS.calls k _ _ l0 l0 w12 (Kd.C_below HR0.out HB.out) HC0.out (F_toaGoods.out)).mono ?_); rintro e w13 ⟨v13_0, rfl, hn0, hb⟩; have M13_0 := Aside0.mk hn0; have D13 := Aside0.mk hb; clear hb hn0)
  have F13 := Aside0.mk (Fr.of_below D13.out)
  have HBn := Aside0.mk (below_step HB.out D13.out)
  clear HB
  have HB := HBn
  clear HBn
  have G13 := Aside0.mk F13.out.1
  obtain ⟨a13_0, b13_0, N13_0, H13_0⟩ := Hs.new M13_0.out (B := w.heap.size) HB12.out G13.out
  have N13_0 := Aside0.mk N13_0
  have H13_0 := Aside0.mk H13_0
  clear M13_0
  obtain ⟨A13_0, c13_0, e13_0⟩ := Hs.form H13_0.out
  subst e13_0
  clear D13
  have HB13 := Aside0.mk HB.out.size
  go_wp2_with (go_at_call 21; (with_reducible refine (impl_StepOrders.calls k _ _ l0 (a1) (a2) (a3) R b w13 (Hs.C H13_0.out) (Hs.cap H13_0.out) (F_impl.out)).mono ?_); rintro e w14 ⟨v14_0, rfl, hn0, hb⟩; have M14_0 := Aside0.mk hn0; have D14 := Aside0.mk hb; clear hb hn0)
  have F14 := Aside0.mk (Fr.of_below D14.out)
  have HBn := Aside0.mk (below_step HB.out D14.out)
  clear HB
  have HB := HBn
  clear HBn
  have G14 := Aside0.mk F14.out.1
  obtain ⟨a14_0, b14_0, N14_0, H14_0⟩ := Hd.new M14_0.out (B := w.heap.size) HB13.out G14.out
  have N14_0 := Aside0.mk N14_0
  have H14_0 := Aside0.mk H14_0
  clear M14_0
  obtain ⟨A14_0, c14_0, e14_0⟩ := Hd.form H14_0.out
  subst e14_0
  clear D14
  have HB14 := Aside0.mk HB.out.size
  have H3_0n := Aside0.mk (Hd.move (Hd.move (Hd.move (Hd.move (Hd.move (H3_0.out) F10.out (.inr (Nat.zero_le _))) F11.out (by have := G1.out; have := G2.out; have := N2_0.out; have := G3.out; have := N3_0.out; have := G4.out; have := N4_0.out; have := G5.out; have := N5_0.out; have := G6.out; have := G7.out; have := N7_0.out; have := G8.out; have := G9.out; have := G10.out; have := G11.out; have := G12.out; have := G13.out; have := N13_0.out; have := G14.out; have := N14_0.out; first | (left; omega) | (right; omega))) F12.out (.inr (Nat.zero_le _))) F13.out (.inr (Nat.zero_le _))) F14.out (.inr (Nat.zero_le _)))
  clear H3_0
  have H3_0 := H3_0n
  clear H3_0n
  go_wp2_with (go_at_call 13; (with_reducible refine (laws_eqIntS.calls k _ _ R _ _ R true w14 (Hd.C H14_0.out) (Hd.cap H14_0.out) (Hd.C H3_0.out) (Hd.cap H3_0.out) (F_eqR.out)).mono ?_); rintro e w15 ⟨rfl, hd⟩; have D15 := Aside0.mk hd.below; clear hd)
  have F15 := Aside0.mk (Fr.of_below D15.out)
  have HBn := Aside0.mk (below_step HB.out D15.out)
  clear HB
  have HB := HBn
  clear HBn
  have G15 := Aside0.mk F15.out.1
  clear D15
  have HB15 := Aside0.mk HB.out.size
  have H5_0n := Aside0.mk (Hd.move (Hd.move (Hd.move (Hd.move (H5_0.out) F12.out (.inr (Nat.zero_le _))) F13.out (.inr (Nat.zero_le _))) F14.out (.inr (Nat.zero_le _))) F15.out (.inr (Nat.zero_le _)))
  clear H5_0
  have H5_0 := H5_0n
  clear H5_0n
  have KC16 := Aside0.mk (laws_heldIntS.calls k _ _ mR (1) m w15 (Hd.C H5_0.out) (Hd.cap H5_0.out) (F_held.out))
  rw [L_lnR.out] at KC16
  go_wp2_with (go_at_call 17; (with_reducible refine KC16.out.mono ?_); rintro e w16 ⟨rfl, hd⟩; have D16 := Aside0.mk hd.below; clear hd)
  have F16 := Aside0.mk (Fr.of_below D16.out)
  have HBn := Aside0.mk (below_step HB.out D16.out)
  clear HB
  have HB := HBn
  clear HBn
  have G16 := Aside0.mk F16.out.1
  clear D16
  have HB16 := Aside0.mk HB.out.size
  go_wp2
  go_ret
  exact ⟨by first | rfl | (simp; done), HB.out⟩
set_option maxRecDepth 100000 in
theorem laws_FnExactStepOrders.large0 (k : Nat) (A0 : Option Addr) (c0 : Nat) (l0 : List (List Int)) (a1 : Int) (a2 : Int) (a3 : Int) (w : World) (hr0 : Kd.C (Kd.slice 3 (Kd.int .i64)) w A0 l0.length l0) (hc0 : l0.length ≤ c0) (q0 : Int) (f_sz0 : laws_szIntSS.f k l0 (1048576) = some q0) (f_neg : q0 < 0) :
    Calls Try.prog 6 #[.slice A0 l0.length c0, .int .i64 a1, .int .i64 a2, .int .i64 a3] w fun e w' => e = .returned (.bool true) ∧ Below w.heap.size w w' := by
  have HR0 := Aside0.mk hr0
  have HC0 := Aside0.mk hc0
  clear hr0 hc0
  have HB := Aside0.mk (Below.refl w.heap.size w)
  have HB0 := Aside0.mk HB.out.size
  have F_sz0 := Aside0.mk f_sz0
  clear f_sz0
  have t_neg : decide (q0 < 0) = true := decide_eq_true f_neg
  clear f_neg
  go_enter Try.func6, Try.ntmps6
  go_wp2_with (go_at_call 18; (with_reducible refine (laws_szIntSS.calls k _ _ l0 (1048576) q0 w (Kd.C_below HR0.out HB.out) HC0.out (F_sz0.out)).mono ?_); rintro e w1 ⟨rfl, hd⟩; have D1 := Aside0.mk hd.below; clear hd)
  have F1 := Aside0.mk (Fr.of_below D1.out)
  have HBn := Aside0.mk (below_step HB.out D1.out)
  clear HB
  have HB := HBn
  clear HBn
  have G1 := Aside0.mk F1.out.1
  clear D1
  have HB1 := Aside0.mk HB.out.size
  go_ret
  exact ⟨by first | rfl | (simp; done), HB.out⟩
/-- What the law's calls answer. -/
def laws_FnExactStepOrders.Facts (k : Nat) (l0 : List (List Int)) (a1 : Int) (a2 : Int) (a3 : Int) : Prop := (∃ (q0 : Int), (laws_szIntSS.f k l0 (1048576) = some q0) ∧ (q0 < 0)) ∨ laws_FnExactStepOrders.Good k l0 a1 a2 a3
theorem laws_FnExactStepOrders.calls (k : Nat) (A0 : Option Addr) (c0 : Nat) (l0 : List (List Int)) (a1 : Int) (a2 : Int) (a3 : Int) (w : World) (hr0 : Kd.C (Kd.slice 3 (Kd.int .i64)) w A0 l0.length l0) (hc0 : l0.length ≤ c0) (h : laws_FnExactStepOrders.Facts k l0 a1 a2 a3) :
    Calls Try.prog 6 #[.slice A0 l0.length c0, .int .i64 a1, .int .i64 a2, .int .i64 a3] w fun e w' => e = .returned (.bool true) ∧ Below w.heap.size w w' := by
  rcases h with ⟨q0, f_sz0, f_neg⟩ | h
  · exact laws_FnExactStepOrders.large0 k A0 c0 l0 a1 a2 a3 w hr0 hc0 q0 f_sz0 f_neg
  · exact laws_FnExactStepOrders.good k A0 c0 l0 a1 a2 a3 w hr0 hc0 h
end Go.Proofs.Ytnojmhcmngejnaa.PFnExactStepOrders
