/- Written by a program of this session (lawwalk.py): the walk of the law FnExactBudgetOrders, where every answer on the way is known; the facts that it asks are those of the pure statement. -/
import Derived.Test.YtnojmhcmngejnaaQFnExactBudgetOrdersx0
import Derived.Test.YtnojmhcmngejnaaQFnExactBudgetOrdersx1
import Derived.Test.YtnojmhcmngejnaaQFnExactBudgetOrdersx2
import Derived.Test.YtnojmhcmngejnaaQFnExactBudgetOrdersx3
import Derived.Test.YtnojmhcmngejnaaQFnExactBudgetOrdersx4
import Derived.Test.YtnojmhcmngejnaaQFnExactBudgetOrdersx5
import Derived.Test.YtnojmhcmngejnaaQFnExactBudgetOrdersx6
import Derived.Test.YtnojmhcmngejnaaQFnExactBudgetOrdersx7
import Derived.Test.YtnojmhcmngejnaaQFnExactBudgetOrdersx8
import Derived.Test.YtnojmhcmngejnaaHold
namespace Go.Proofs.Ytnojmhcmngejnaa.PFnExactBudgetOrders
open Go.RowKit Go.Proofs.YtnojmhcmngejnaaW.PrintWords Go.Proofs.YtnojmhcmngejnaaW.PrintLast Go.Proofs.YtnojmhcmngejnaaW.PrintMore Go.Proofs.Ytnojmhcmngejnaa.Hold Go.Proofs.Ytnojmhcmngejnaa.Hold
set_option linter.unusedVariables false
set_option linter.unusedSimpArgs false
/-- What the law's calls answer, the case not being too large. -/
def laws_FnExactBudgetOrders.Good (k : Nat) (l0 : List (List Int)) (a1 : Int) (a2 : Int) (l3 : List Int) (a4 : Int) : Prop := ∃ (q0 : Int) (R : List Int) (b : Bool) (k0 : Int) (ml0 : List (List Int)) (k1 : Int) (ml3 : List Int) (m : Int) (mR : List Int), (¬ (l3.length : Int) > 1048576) ∧ (laws_szIntSS.f k l0 (1048576) = some q0) ∧ (0 ≤ q0) ∧ (laws_toIntSS.f k l0 = some l0) ∧ (laws_toIntS.f k l3 = some l3) ∧ (spec_BudgetOrders.f k l0 a1 a2 l3 a4 = some (R, b)) ∧ (impl_BudgetOrders.f k l0 a1 a2 l3 a4 = some (R, b)) ∧ (laws_eqIntS.f k R R = some true) ∧ (laws_eqIntSS.f k l0 l0 = some true) ∧ (laws_eqIntS.f k l3 l3 = some true) ∧ (laws_markIntSS.f k l0 (1) = some (k0, ml0)) ∧ (0 ≤ k0) ∧ (laws_markIntS.f k l3 (k0) = some (k1, ml3)) ∧ (0 ≤ k1) ∧ (laws_markIntS.f k R 1 = some (m, mR)) ∧ (laws_heldIntS.f k mR 1 = some m) ∧ (0 ≤ m) ∧ (mR.length = R.length)
set_option maxHeartbeats 8000000 in
set_option maxRecDepth 100000 in
theorem laws_FnExactBudgetOrders.good (k : Nat) (A0 : Option Addr) (c0 : Nat) (l0 : List (List Int)) (a1 : Int) (a2 : Int) (A3 : Option Addr) (c3 : Nat) (l3 : List Int) (a4 : Int) (w : World) (hr0 : Kd.C (Kd.slice 3 (Kd.int .i64)) w A0 l0.length l0) (hc0 : l0.length ≤ c0) (hr3 : Kd.C (Kd.int .i64) w A3 l3.length l3) (hc3 : l3.length ≤ c3) (h : laws_FnExactBudgetOrders.Good k l0 a1 a2 l3 a4) :
    Calls Try.prog 7 #[.slice A0 l0.length c0, .int .i64 a1, .int .i64 a2, .slice A3 l3.length c3, .int .i64 a4] w fun e w' => e = .returned (.bool true) ∧ Below w.heap.size w w' := by
  have HR0 := Aside0.mk hr0
  have HC0 := Aside0.mk hc0
  clear hr0 hc0
  have HR3 := Aside0.mk hr3
  have HC3 := Aside0.mk hc3
  clear hr3 hc3
  have HB := Aside0.mk (Below.refl w.heap.size w)
  have HB0 := Aside0.mk HB.out.size
  obtain ⟨q0, R, b, k0, ml0, k1, ml3, m, mR, f_len_aPrices, f_sz0, f_nn0, f_toaGoods, f_toaPrices, f_spec, f_impl, f_eqR, f_eqaGoods, f_eqaPrices, f_mkaGoods, f_mn0, f_mkaPrices, f_mn1, f_mkR, f_held, f_mm, f_lnR⟩ := h
  have t_len_aPrices : decide (1048576 < ((l3.length : Int))) = false := decide_eq_false f_len_aPrices
  clear f_len_aPrices
  have F_sz0 := Aside0.mk f_sz0
  clear f_sz0
  have t_nn0 : decide (q0 < 0) = false := decide_eq_false (by omega)
  clear f_nn0
  have F_toaGoods := Aside0.mk f_toaGoods
  clear f_toaGoods
  have F_toaPrices := Aside0.mk f_toaPrices
  clear f_toaPrices
  have F_spec := Aside0.mk f_spec
  clear f_spec
  have F_impl := Aside0.mk f_impl
  clear f_impl
  have F_eqR := Aside0.mk f_eqR
  clear f_eqR
  have F_eqaGoods := Aside0.mk f_eqaGoods
  clear f_eqaGoods
  have F_eqaPrices := Aside0.mk f_eqaPrices
  clear f_eqaPrices
  have F_mkaGoods := Aside0.mk f_mkaGoods
  clear f_mkaGoods
  have t_mn0 : decide (k0 < 0) = false := decide_eq_false (by omega)
  clear f_mn0
  have F_mkaPrices := Aside0.mk f_mkaPrices
  clear f_mkaPrices
  have t_mn1 : decide (k1 < 0) = false := decide_eq_false (by omega)
  clear f_mn1
  have F_mkR := Aside0.mk f_mkR
  clear f_mkR
  have F_held := Aside0.mk f_held
  clear f_held
  have t_mm : decide (m < 0) = false := decide_eq_false (by omega)
  clear f_mm
  have L_lnR := Aside0.mk f_lnR
  clear f_lnR
  go_enter Try.func7, Try.ntmps7
  go_wp2_with (go_at_call 18; (with_reducible refine (laws_szIntSS.calls k _ _ l0 (1048576) q0 w (Kd.C_below HR0.out HB.out) HC0.out (F_sz0.out)).mono ?_); rintro e w1 ⟨rfl, hd⟩; have D1 := Aside0.mk hd.below; clear hd)
  have F1 := Aside0.mk (Fr.of_below D1.out)
  have HBn := Aside0.mk (below_step HB.out D1.out)
  clear HB
  have HB := HBn
  clear HBn
  have G1 := Aside0.mk F1.out.1
  clear D1
  have HB1 := Aside0.mk HB.out.size
  go_wp2_with (go_at_call 20; (with_reducible refine (laws_toIntSS.calls k _ _ l0 l0 w1 (Kd.C_below HR0.out HB.out) HC0.out (F_toaGoods.out)).mono ?_); rintro e w2 ⟨v2_0, rfl, hn0, hb⟩; have M2_0 := Aside0.mk hn0; have D2 := Aside0.mk hb; clear hb hn0)
  have F2 := Aside0.mk (Fr.of_below D2.out)
  have HBn := Aside0.mk (below_step HB.out D2.out)
  clear HB
  have HB := HBn
  clear HBn
  have G2 := Aside0.mk F2.out.1
  obtain ⟨a2_0, b2_0, N2_0, H2_0⟩ := Hs.new M2_0.out (B := w.heap.size) HB1.out G2.out
  have N2_0 := Aside0.mk N2_0
  have H2_0 := Aside0.mk H2_0
  clear M2_0
  obtain ⟨A2_0, c2_0, e2_0⟩ := Hs.form H2_0.out
  subst e2_0
  clear D2
  have HB2 := Aside0.mk HB.out.size
  go_wp2_with (go_at_call 11; (with_reducible refine (laws_toIntS.calls k _ _ l3 l3 w2 (Kd.C_below HR3.out HB.out) HC3.out (F_toaPrices.out)).mono ?_); rintro e w3 ⟨v3_0, rfl, hn0, hb⟩; have M3_0 := Aside0.mk hn0; have D3 := Aside0.mk hb; clear hb hn0)
  have F3 := Aside0.mk (Fr.of_below D3.out)
  have HBn := Aside0.mk (below_step HB.out D3.out)
  clear HB
  have HB := HBn
  clear HBn
  have G3 := Aside0.mk F3.out.1
  obtain ⟨a3_0, b3_0, N3_0, H3_0⟩ := Hd.new M3_0.out (B := w.heap.size) HB2.out G3.out
  have N3_0 := Aside0.mk N3_0
  have H3_0 := Aside0.mk H3_0
  clear M3_0
  obtain ⟨A3_0, c3_0, e3_0⟩ := Hd.form H3_0.out
  subst e3_0
  clear D3
  have HB3 := Aside0.mk HB.out.size
  have H2_0n := Aside0.mk (Hs.move (H2_0.out) F3.out (.inr (Nat.zero_le _)))
  clear H2_0
  have H2_0 := H2_0n
  clear H2_0n
  go_wp2_with (go_at_call 24; (with_reducible refine (spec_BudgetOrders.calls k _ _ l0 (a1) (a2) _ _ l3 (a4) R b w3 (Hs.C H2_0.out) (Hs.cap H2_0.out) (Hd.C H3_0.out) (Hd.cap H3_0.out) (F_spec.out)).mono ?_); rintro e w4 ⟨v4_0, rfl, hn0, hb⟩; have M4_0 := Aside0.mk hn0; have D4 := Aside0.mk hb; clear hb hn0)
  have F4 := Aside0.mk (Fr.of_below D4.out)
  have HBn := Aside0.mk (below_step HB.out D4.out)
  clear HB
  have HB := HBn
  clear HBn
  have G4 := Aside0.mk F4.out.1
  obtain ⟨a4_0, b4_0, N4_0, H4_0⟩ := Hd.new M4_0.out (B := w.heap.size) HB3.out G4.out
  have N4_0 := Aside0.mk N4_0
  have H4_0 := Aside0.mk H4_0
  clear M4_0
  obtain ⟨A4_0, c4_0, e4_0⟩ := Hd.form H4_0.out
  subst e4_0
  clear D4
  have HB4 := Aside0.mk HB.out.size
  go_wp2_with (go_at_call 20; (with_reducible refine (laws_toIntSS.calls k _ _ l0 l0 w4 (Kd.C_below HR0.out HB.out) HC0.out (F_toaGoods.out)).mono ?_); rintro e w5 ⟨v5_0, rfl, hn0, hb⟩; have M5_0 := Aside0.mk hn0; have D5 := Aside0.mk hb; clear hb hn0)
  have F5 := Aside0.mk (Fr.of_below D5.out)
  have HBn := Aside0.mk (below_step HB.out D5.out)
  clear HB
  have HB := HBn
  clear HBn
  have G5 := Aside0.mk F5.out.1
  obtain ⟨a5_0, b5_0, N5_0, H5_0⟩ := Hs.new M5_0.out (B := w.heap.size) HB4.out G5.out
  have N5_0 := Aside0.mk N5_0
  have H5_0 := Aside0.mk H5_0
  clear M5_0
  obtain ⟨A5_0, c5_0, e5_0⟩ := Hs.form H5_0.out
  subst e5_0
  clear D5
  have HB5 := Aside0.mk HB.out.size
  go_wp2_with (go_at_call 11; (with_reducible refine (laws_toIntS.calls k _ _ l3 l3 w5 (Kd.C_below HR3.out HB.out) HC3.out (F_toaPrices.out)).mono ?_); rintro e w6 ⟨v6_0, rfl, hn0, hb⟩; have M6_0 := Aside0.mk hn0; have D6 := Aside0.mk hb; clear hb hn0)
  have F6 := Aside0.mk (Fr.of_below D6.out)
  have HBn := Aside0.mk (below_step HB.out D6.out)
  clear HB
  have HB := HBn
  clear HBn
  have G6 := Aside0.mk F6.out.1
  obtain ⟨a6_0, b6_0, N6_0, H6_0⟩ := Hd.new M6_0.out (B := w.heap.size) HB5.out G6.out
  have N6_0 := Aside0.mk N6_0
  have H6_0 := Aside0.mk H6_0
  clear M6_0
  obtain ⟨A6_0, c6_0, e6_0⟩ := Hd.form H6_0.out
  subst e6_0
  clear D6
  have HB6 := Aside0.mk HB.out.size
  have H5_0n := Aside0.mk (Hs.move (H5_0.out) F6.out (.inr (Nat.zero_le _)))
  clear H5_0
  have H5_0 := H5_0n
  clear H5_0n
  go_wp2_with (go_at_call 25; (with_reducible refine (impl_BudgetOrders.calls k _ _ l0 (a1) (a2) _ _ l3 (a4) R b w6 (Hs.C H5_0.out) (Hs.cap H5_0.out) (Hd.C H6_0.out) (Hd.cap H6_0.out) (F_impl.out)).mono ?_); rintro e w7 ⟨v7_0, rfl, hn0, hb⟩; have M7_0 := Aside0.mk hn0; have D7 := Aside0.mk hb; clear hb hn0)
  have F7 := Aside0.mk (Fr.of_below D7.out)
  have HBn := Aside0.mk (below_step HB.out D7.out)
  clear HB
  have HB := HBn
  clear HBn
  have G7 := Aside0.mk F7.out.1
  obtain ⟨a7_0, b7_0, N7_0, H7_0⟩ := Hd.new M7_0.out (B := w.heap.size) HB6.out G7.out
  have N7_0 := Aside0.mk N7_0
  have H7_0 := Aside0.mk H7_0
  clear M7_0
  obtain ⟨A7_0, c7_0, e7_0⟩ := Hd.form H7_0.out
  subst e7_0
  clear D7
  have HB7 := Aside0.mk HB.out.size
  have H4_0n := Aside0.mk (Hd.move (Hd.move (Hd.move (H4_0.out) F5.out (.inr (Nat.zero_le _))) F6.out (.inr (Nat.zero_le _))) F7.out (.inr (Nat.zero_le _)))
  clear H4_0
  have H4_0 := H4_0n
  clear H4_0n
  go_wp2_with (go_at_call 13; (with_reducible refine (laws_eqIntS.calls k _ _ R _ _ R true w7 (Hd.C H7_0.out) (Hd.cap H7_0.out) (Hd.C H4_0.out) (Hd.cap H4_0.out) (F_eqR.out)).mono ?_); rintro e w8 ⟨rfl, hd⟩; have D8 := Aside0.mk hd.below; clear hd)
  have F8 := Aside0.mk (Fr.of_below D8.out)
  have HBn := Aside0.mk (below_step HB.out D8.out)
  clear HB
  have HB := HBn
  clear HBn
  have G8 := Aside0.mk F8.out.1
  clear D8
  have HB8 := Aside0.mk HB.out.size
  go_wp2_with (go_at_call 20; (with_reducible refine (laws_toIntSS.calls k _ _ l0 l0 w8 (Kd.C_below HR0.out HB.out) HC0.out (F_toaGoods.out)).mono ?_); rintro e w9 ⟨v9_0, rfl, hn0, hb⟩; have M9_0 := Aside0.mk hn0; have D9 := Aside0.mk hb; clear hb hn0)
  have F9 := Aside0.mk (Fr.of_below D9.out)
  have HBn := Aside0.mk (below_step HB.out D9.out)
  clear HB
  have HB := HBn
  clear HBn
  have G9 := Aside0.mk F9.out.1
  obtain ⟨a9_0, b9_0, N9_0, H9_0⟩ := Hs.new M9_0.out (B := w.heap.size) HB8.out G9.out
  have N9_0 := Aside0.mk N9_0
  have H9_0 := Aside0.mk H9_0
  clear M9_0
  obtain ⟨A9_0, c9_0, e9_0⟩ := Hs.form H9_0.out
  subst e9_0
  clear D9
  have HB9 := Aside0.mk HB.out.size
  have H5_0n := Aside0.mk (Hs.move (Hs.move (Hs.move (H5_0.out) F7.out (.inr (Nat.zero_le _))) F8.out (.inr (Nat.zero_le _))) F9.out (.inr (Nat.zero_le _)))
  clear H5_0
  have H5_0 := H5_0n
  clear H5_0n
  go_wp2_with (go_at_call 22; (with_reducible refine (laws_eqIntSS.calls k _ _ l0 _ _ l0 true w9 (Hs.C H5_0.out) (Hs.cap H5_0.out) (Hs.C H9_0.out) (Hs.cap H9_0.out) (F_eqaGoods.out)).mono ?_); rintro e w10 ⟨rfl, hd⟩; have D10 := Aside0.mk hd.below; clear hd)
  have F10 := Aside0.mk (Fr.of_below D10.out)
  have HBn := Aside0.mk (below_step HB.out D10.out)
  clear HB
  have HB := HBn
  clear HBn
  have G10 := Aside0.mk F10.out.1
  clear D10
  have HB10 := Aside0.mk HB.out.size
  go_wp2_with (go_at_call 11; (with_reducible refine (laws_toIntS.calls k _ _ l3 l3 w10 (Kd.C_below HR3.out HB.out) HC3.out (F_toaPrices.out)).mono ?_); rintro e w11 ⟨v11_0, rfl, hn0, hb⟩; have M11_0 := Aside0.mk hn0; have D11 := Aside0.mk hb; clear hb hn0)
  have F11 := Aside0.mk (Fr.of_below D11.out)
  have HBn := Aside0.mk (below_step HB.out D11.out)
  clear HB
  have HB := HBn
  clear HBn
  have G11 := Aside0.mk F11.out.1
  obtain ⟨a11_0, b11_0, N11_0, H11_0⟩ := Hd.new M11_0.out (B := w.heap.size) HB10.out G11.out
  have N11_0 := Aside0.mk N11_0
  have H11_0 := Aside0.mk H11_0
  clear M11_0
  obtain ⟨A11_0, c11_0, e11_0⟩ := Hd.form H11_0.out
  subst e11_0
  clear D11
  have HB11 := Aside0.mk HB.out.size
  have H6_0n := Aside0.mk (Hd.move (Hd.move (Hd.move (Hd.move (Hd.move (H6_0.out) F7.out (.inr (Nat.zero_le _))) F8.out (.inr (Nat.zero_le _))) F9.out (.inr (Nat.zero_le _))) F10.out (.inr (Nat.zero_le _))) F11.out (.inr (Nat.zero_le _)))
  clear H6_0
  have H6_0 := H6_0n
  clear H6_0n
  go_wp2_with (go_at_call 13; (with_reducible refine (laws_eqIntS.calls k _ _ l3 _ _ l3 true w11 (Hd.C H6_0.out) (Hd.cap H6_0.out) (Hd.C H11_0.out) (Hd.cap H11_0.out) (F_eqaPrices.out)).mono ?_); rintro e w12 ⟨rfl, hd⟩; have D12 := Aside0.mk hd.below; clear hd)
  have F12 := Aside0.mk (Fr.of_below D12.out)
  have HBn := Aside0.mk (below_step HB.out D12.out)
  clear HB
  have HB := HBn
  clear HBn
  have G12 := Aside0.mk F12.out.1
  clear D12
  have HB12 := Aside0.mk HB.out.size
  have H5_0n := Aside0.mk (Hs.move (Hs.move (Hs.move (H5_0.out) F10.out (.inr (Nat.zero_le _))) F11.out (.inr (Nat.zero_le _))) F12.out (.inr (Nat.zero_le _)))
  clear H5_0
  have H5_0 := H5_0n
  clear H5_0n
  go_wp2_with (go_at_call 23; (with_reducible refine (laws_markIntSS.calls k (fun k_ => a5_0 ≤ k_ ∧ k_ < b5_0) _ l0 (1) k0 ml0 w w12 HB.out (Hs.own H5_0.out) (F_mkaGoods.out)).mono ?_); rintro e w13 ⟨rfl, hm0, hb, hk⟩; have M13_0 := Aside0.mk hm0; have K13 := Aside0.mk hk; have HBn := Aside0.mk hb; clear hb hk hm0)
  have F13 := Aside0.mk (Fr.of_kept K13.out (p := a5_0) (q := b5_0) (fun k_ hk => hk))
  clear K13
  clear HB
  have HB := HBn
  clear HBn
  clear H5_0 M13_0
  have G13 := Aside0.mk F13.out.1
  have HB13 := Aside0.mk HB.out.size
  have H6_0n := Aside0.mk (Hd.move (Hd.move (H6_0.out) F12.out (.inr (Nat.zero_le _))) F13.out (by have := G1.out; have := G2.out; have := N2_0.out; have := G3.out; have := N3_0.out; have := G4.out; have := N4_0.out; have := G5.out; have := N5_0.out; have := G6.out; have := N6_0.out; have := G7.out; have := N7_0.out; have := G8.out; have := G9.out; have := N9_0.out; have := G10.out; have := G11.out; have := N11_0.out; have := G12.out; have := G13.out; first | (left; omega) | (right; omega)))
  clear H6_0
  have H6_0 := H6_0n
  clear H6_0n
  go_wp2_with (go_at_call 16; (with_reducible refine (laws_markIntS.calls k (fun k_ => some k_ = (.slice A6_0 l3.length c6_0 : Value).ownBlock) _ l3 (k0) k1 ml3 w w13 HB.out (Hd.tight H6_0.out rfl) (F_mkaPrices.out)).mono ?_); rintro e w14 ⟨rfl, hm0, hb, hk⟩; have M14_0 := Aside0.mk hm0; have K14 := Aside0.mk hk; have HBn := Aside0.mk hb; clear hb hk hm0)
  have F14 := Aside0.mk (Fr.of_kept K14.out (p := w5.heap.size) (q := w6.heap.size) (fun k_ hk => by
      have := Hd.within H6_0.out k_ hk; have := G1.out; have := G2.out; have := N2_0.out; have := G3.out; have := N3_0.out; have := G4.out; have := N4_0.out; have := G5.out; have := N5_0.out; have := G6.out; have := N6_0.out; have := G7.out; have := N7_0.out; have := G8.out; have := G9.out; have := N9_0.out; have := G10.out; have := G11.out; have := N11_0.out; have := G12.out; have := G13.out; omega))
  clear K14
  clear HB
  have HB := HBn
  clear HBn
  clear H6_0 M14_0
  have G14 := Aside0.mk F14.out.1
  have HB14 := Aside0.mk HB.out.size
  have H7_0n := Aside0.mk (Hd.move (Hd.move (Hd.move (Hd.move (Hd.move (Hd.move (Hd.move (H7_0.out) F8.out (.inr (Nat.zero_le _))) F9.out (.inr (Nat.zero_le _))) F10.out (.inr (Nat.zero_le _))) F11.out (.inr (Nat.zero_le _))) F12.out (.inr (Nat.zero_le _))) F13.out (by have := G1.out; have := G2.out; have := N2_0.out; have := G3.out; have := N3_0.out; have := G4.out; have := N4_0.out; have := G5.out; have := N5_0.out; have := G6.out; have := N6_0.out; have := G7.out; have := N7_0.out; have := G8.out; have := G9.out; have := N9_0.out; have := G10.out; have := G11.out; have := N11_0.out; have := G12.out; have := G13.out; have := G14.out; first | (left; omega) | (right; omega))) F14.out (by have := G1.out; have := G2.out; have := N2_0.out; have := G3.out; have := N3_0.out; have := G4.out; have := N4_0.out; have := G5.out; have := N5_0.out; have := G6.out; have := N6_0.out; have := G7.out; have := N7_0.out; have := G8.out; have := G9.out; have := N9_0.out; have := G10.out; have := G11.out; have := N11_0.out; have := G12.out; have := G13.out; have := G14.out; first | (left; omega) | (right; omega)))
  clear H7_0
  have H7_0 := H7_0n
  clear H7_0n
  have H4_0n := Aside0.mk (Hd.move (Hd.move (Hd.move (Hd.move (Hd.move (Hd.move (Hd.move (H4_0.out) F8.out (.inr (Nat.zero_le _))) F9.out (.inr (Nat.zero_le _))) F10.out (.inr (Nat.zero_le _))) F11.out (.inr (Nat.zero_le _))) F12.out (.inr (Nat.zero_le _))) F13.out (by have := G1.out; have := G2.out; have := N2_0.out; have := G3.out; have := N3_0.out; have := G4.out; have := N4_0.out; have := G5.out; have := N5_0.out; have := G6.out; have := N6_0.out; have := G7.out; have := N7_0.out; have := G8.out; have := G9.out; have := N9_0.out; have := G10.out; have := G11.out; have := N11_0.out; have := G12.out; have := G13.out; have := G14.out; first | (left; omega) | (right; omega))) F14.out (by have := G1.out; have := G2.out; have := N2_0.out; have := G3.out; have := N3_0.out; have := G4.out; have := N4_0.out; have := G5.out; have := N5_0.out; have := G6.out; have := N6_0.out; have := G7.out; have := N7_0.out; have := G8.out; have := G9.out; have := N9_0.out; have := G10.out; have := G11.out; have := N11_0.out; have := G12.out; have := G13.out; have := G14.out; first | (left; omega) | (right; omega)))
  clear H4_0
  have H4_0 := H4_0n
  clear H4_0n
  go_wp2_with (go_at_call 13; (with_reducible refine (laws_eqIntS.calls k _ _ R _ _ R true w14 (Hd.C H7_0.out) (Hd.cap H7_0.out) (Hd.C H4_0.out) (Hd.cap H4_0.out) (F_eqR.out)).mono ?_); rintro e w15 ⟨rfl, hd⟩; have D15 := Aside0.mk hd.below; clear hd)
  have F15 := Aside0.mk (Fr.of_below D15.out)
  have HBn := Aside0.mk (below_step HB.out D15.out)
  clear HB
  have HB := HBn
  clear HBn
  have G15 := Aside0.mk F15.out.1
  clear D15
  have HB15 := Aside0.mk HB.out.size
  have H7_0n := Aside0.mk (Hd.move (H7_0.out) F15.out (.inr (Nat.zero_le _)))
  clear H7_0
  have H7_0 := H7_0n
  clear H7_0n
  go_wp2_with (go_at_call 16; (with_reducible refine (laws_markIntS.calls k (fun k_ => some k_ = (.slice A7_0 R.length c7_0 : Value).ownBlock) _ R (1) m mR w w15 HB.out (Hd.tight H7_0.out rfl) (F_mkR.out)).mono ?_); rintro e w16 ⟨rfl, hm0, hb, hk⟩; have M16_0 := Aside0.mk hm0; have K16 := Aside0.mk hk; have HBn := Aside0.mk hb; clear hb hk hm0)
  have F16 := Aside0.mk (Fr.of_kept K16.out (p := w6.heap.size) (q := w7.heap.size) (fun k_ hk => by
      have := Hd.within H7_0.out k_ hk; have := G1.out; have := G2.out; have := N2_0.out; have := G3.out; have := N3_0.out; have := G4.out; have := N4_0.out; have := G5.out; have := N5_0.out; have := G6.out; have := N6_0.out; have := G7.out; have := N7_0.out; have := G8.out; have := G9.out; have := N9_0.out; have := G10.out; have := G11.out; have := N11_0.out; have := G12.out; have := G13.out; have := G14.out; have := G15.out; omega))
  clear K16
  clear HB
  have HB := HBn
  clear HBn
  have H7_0n := Aside0.mk (show Hd (Kd.int .i64) 3 w16 w.heap.size a7_0 b7_0 (.slice A7_0 mR.length c7_0) mR from by rw [L_lnR.out]; exact Hd.marked H7_0.out rfl M16_0.out)
  clear H7_0 M16_0
  have H7_0 := H7_0n
  clear H7_0n
  have G16 := Aside0.mk F16.out.1
  have HB16 := Aside0.mk HB.out.size
  have KC17 := Aside0.mk (laws_heldIntS.calls k _ _ mR (1) m w16 (Hd.C H7_0.out) (Hd.cap H7_0.out) (F_held.out))
  rw [L_lnR.out] at KC17
  go_wp2_with (go_at_call 17; (with_reducible refine KC17.out.mono ?_); rintro e w17 ⟨rfl, hd⟩; have D17 := Aside0.mk hd.below; clear hd)
  have F17 := Aside0.mk (Fr.of_below D17.out)
  have HBn := Aside0.mk (below_step HB.out D17.out)
  clear HB
  have HB := HBn
  clear HBn
  have G17 := Aside0.mk F17.out.1
  clear D17
  have HB17 := Aside0.mk HB.out.size
  go_wp2_with (go_at_call 20; (with_reducible refine (laws_toIntSS.calls k _ _ l0 l0 w17 (Kd.C_below HR0.out HB.out) HC0.out (F_toaGoods.out)).mono ?_); rintro e w18 ⟨v18_0, rfl, hn0, hb⟩; have M18_0 := Aside0.mk hn0; have D18 := Aside0.mk hb; clear hb hn0)
  have F18 := Aside0.mk (Fr.of_below D18.out)
  have HBn := Aside0.mk (below_step HB.out D18.out)
  clear HB
  have HB := HBn
  clear HBn
  have G18 := Aside0.mk F18.out.1
  obtain ⟨a18_0, b18_0, N18_0, H18_0⟩ := Hs.new M18_0.out (B := w.heap.size) HB17.out G18.out
  have N18_0 := Aside0.mk N18_0
  have H18_0 := Aside0.mk H18_0
  clear M18_0
  obtain ⟨A18_0, c18_0, e18_0⟩ := Hs.form H18_0.out
  subst e18_0
  clear D18
  have HB18 := Aside0.mk HB.out.size
  go_wp2_with (go_at_call 11; (with_reducible refine (laws_toIntS.calls k _ _ l3 l3 w18 (Kd.C_below HR3.out HB.out) HC3.out (F_toaPrices.out)).mono ?_); rintro e w19 ⟨v19_0, rfl, hn0, hb⟩; have M19_0 := Aside0.mk hn0; have D19 := Aside0.mk hb; clear hb hn0)
  have F19 := Aside0.mk (Fr.of_below D19.out)
  have HBn := Aside0.mk (below_step HB.out D19.out)
  clear HB
  have HB := HBn
  clear HBn
  have G19 := Aside0.mk F19.out.1
  obtain ⟨a19_0, b19_0, N19_0, H19_0⟩ := Hd.new M19_0.out (B := w.heap.size) HB18.out G19.out
  have N19_0 := Aside0.mk N19_0
  have H19_0 := Aside0.mk H19_0
  clear M19_0
  obtain ⟨A19_0, c19_0, e19_0⟩ := Hd.form H19_0.out
  subst e19_0
  clear D19
  have HB19 := Aside0.mk HB.out.size
  have H18_0n := Aside0.mk (Hs.move (H18_0.out) F19.out (.inr (Nat.zero_le _)))
  clear H18_0
  have H18_0 := H18_0n
  clear H18_0n
  go_wp2_with (go_at_call 25; (with_reducible refine (impl_BudgetOrders.calls k _ _ l0 (a1) (a2) _ _ l3 (a4) R b w19 (Hs.C H18_0.out) (Hs.cap H18_0.out) (Hd.C H19_0.out) (Hd.cap H19_0.out) (F_impl.out)).mono ?_); rintro e w20 ⟨v20_0, rfl, hn0, hb⟩; have M20_0 := Aside0.mk hn0; have D20 := Aside0.mk hb; clear hb hn0)
  have F20 := Aside0.mk (Fr.of_below D20.out)
  have HBn := Aside0.mk (below_step HB.out D20.out)
  clear HB
  have HB := HBn
  clear HBn
  have G20 := Aside0.mk F20.out.1
  obtain ⟨a20_0, b20_0, N20_0, H20_0⟩ := Hd.new M20_0.out (B := w.heap.size) HB19.out G20.out
  have N20_0 := Aside0.mk N20_0
  have H20_0 := Aside0.mk H20_0
  clear M20_0
  obtain ⟨A20_0, c20_0, e20_0⟩ := Hd.form H20_0.out
  subst e20_0
  clear D20
  have HB20 := Aside0.mk HB.out.size
  have H4_0n := Aside0.mk (Hd.move (Hd.move (Hd.move (Hd.move (Hd.move (Hd.move (H4_0.out) F15.out (.inr (Nat.zero_le _))) F16.out (by have := G1.out; have := G2.out; have := N2_0.out; have := G3.out; have := N3_0.out; have := G4.out; have := N4_0.out; have := G5.out; have := N5_0.out; have := G6.out; have := N6_0.out; have := G7.out; have := N7_0.out; have := G8.out; have := G9.out; have := N9_0.out; have := G10.out; have := G11.out; have := N11_0.out; have := G12.out; have := G13.out; have := G14.out; have := G15.out; have := G16.out; have := G17.out; have := G18.out; have := N18_0.out; have := G19.out; have := N19_0.out; have := G20.out; have := N20_0.out; first | (left; omega) | (right; omega))) F17.out (.inr (Nat.zero_le _))) F18.out (.inr (Nat.zero_le _))) F19.out (.inr (Nat.zero_le _))) F20.out (.inr (Nat.zero_le _)))
  clear H4_0
  have H4_0 := H4_0n
  clear H4_0n
  go_wp2_with (go_at_call 13; (with_reducible refine (laws_eqIntS.calls k _ _ R _ _ R true w20 (Hd.C H20_0.out) (Hd.cap H20_0.out) (Hd.C H4_0.out) (Hd.cap H4_0.out) (F_eqR.out)).mono ?_); rintro e w21 ⟨rfl, hd⟩; have D21 := Aside0.mk hd.below; clear hd)
  have F21 := Aside0.mk (Fr.of_below D21.out)
  have HBn := Aside0.mk (below_step HB.out D21.out)
  clear HB
  have HB := HBn
  clear HBn
  have G21 := Aside0.mk F21.out.1
  clear D21
  have HB21 := Aside0.mk HB.out.size
  have H7_0n := Aside0.mk (Hd.move (Hd.move (Hd.move (Hd.move (Hd.move (H7_0.out) F17.out (.inr (Nat.zero_le _))) F18.out (.inr (Nat.zero_le _))) F19.out (.inr (Nat.zero_le _))) F20.out (.inr (Nat.zero_le _))) F21.out (.inr (Nat.zero_le _)))
  clear H7_0
  have H7_0 := H7_0n
  clear H7_0n
  have KC22 := Aside0.mk (laws_heldIntS.calls k _ _ mR (1) m w21 (Hd.C H7_0.out) (Hd.cap H7_0.out) (F_held.out))
  rw [L_lnR.out] at KC22
  go_wp2_with (go_at_call 17; (with_reducible refine KC22.out.mono ?_); rintro e w22 ⟨rfl, hd⟩; have D22 := Aside0.mk hd.below; clear hd)
  have F22 := Aside0.mk (Fr.of_below D22.out)
  have HBn := Aside0.mk (below_step HB.out D22.out)
  clear HB
  have HB := HBn
  clear HBn
  have G22 := Aside0.mk F22.out.1
  clear D22
  have HB22 := Aside0.mk HB.out.size
  go_wp2
  go_ret
  exact ⟨by first | rfl | (simp; done), HB.out⟩
set_option maxRecDepth 100000 in
theorem laws_FnExactBudgetOrders.large0 (k : Nat) (A0 : Option Addr) (c0 : Nat) (l0 : List (List Int)) (a1 : Int) (a2 : Int) (A3 : Option Addr) (c3 : Nat) (l3 : List Int) (a4 : Int) (w : World) (hr0 : Kd.C (Kd.slice 3 (Kd.int .i64)) w A0 l0.length l0) (hc0 : l0.length ≤ c0) (hr3 : Kd.C (Kd.int .i64) w A3 l3.length l3) (hc3 : l3.length ≤ c3)  (f_lenp : (l3.length : Int) > 1048576) :
    Calls Try.prog 7 #[.slice A0 l0.length c0, .int .i64 a1, .int .i64 a2, .slice A3 l3.length c3, .int .i64 a4] w fun e w' => e = .returned (.bool true) ∧ Below w.heap.size w w' := by
  have HR0 := Aside0.mk hr0
  have HC0 := Aside0.mk hc0
  clear hr0 hc0
  have HR3 := Aside0.mk hr3
  have HC3 := Aside0.mk hc3
  clear hr3 hc3
  have HB := Aside0.mk (Below.refl w.heap.size w)
  have HB0 := Aside0.mk HB.out.size
  have t_lenp : decide (1048576 < ((l3.length : Int))) = true := decide_eq_true f_lenp
  clear f_lenp
  go_enter Try.func7, Try.ntmps7
  go_wp2
  go_ret
  exact ⟨by first | rfl | (simp; done), HB.out⟩
set_option maxRecDepth 100000 in
theorem laws_FnExactBudgetOrders.large1 (k : Nat) (A0 : Option Addr) (c0 : Nat) (l0 : List (List Int)) (a1 : Int) (a2 : Int) (A3 : Option Addr) (c3 : Nat) (l3 : List Int) (a4 : Int) (w : World) (hr0 : Kd.C (Kd.slice 3 (Kd.int .i64)) w A0 l0.length l0) (hc0 : l0.length ≤ c0) (hr3 : Kd.C (Kd.int .i64) w A3 l3.length l3) (hc3 : l3.length ≤ c3) (q0 : Int) (f_len_aPrices : ¬ (l3.length : Int) > 1048576) (f_sz0 : laws_szIntSS.f k l0 (1048576) = some q0) (f_neg : q0 < 0) :
    Calls Try.prog 7 #[.slice A0 l0.length c0, .int .i64 a1, .int .i64 a2, .slice A3 l3.length c3, .int .i64 a4] w fun e w' => e = .returned (.bool true) ∧ Below w.heap.size w w' := by
  have HR0 := Aside0.mk hr0
  have HC0 := Aside0.mk hc0
  clear hr0 hc0
  have HR3 := Aside0.mk hr3
  have HC3 := Aside0.mk hc3
  clear hr3 hc3
  have HB := Aside0.mk (Below.refl w.heap.size w)
  have HB0 := Aside0.mk HB.out.size
  have t_len_aPrices : decide (1048576 < ((l3.length : Int))) = false := decide_eq_false f_len_aPrices
  clear f_len_aPrices
  have F_sz0 := Aside0.mk f_sz0
  clear f_sz0
  have t_neg : decide (q0 < 0) = true := decide_eq_true f_neg
  clear f_neg
  go_enter Try.func7, Try.ntmps7
  go_wp2_with (go_at_call 18; (with_reducible refine (laws_szIntSS.calls k _ _ l0 (1048576) q0 w (Kd.C_below HR0.out HB.out) HC0.out (F_sz0.out)).mono ?_); rintro e w1 ⟨rfl, hd⟩; have D1 := Aside0.mk hd.below; clear hd)
  have F1 := Aside0.mk (Fr.of_below D1.out)
  have HBn := Aside0.mk (below_step HB.out D1.out)
  clear HB
  have HB := HBn
  clear HBn
  have G1 := Aside0.mk F1.out.1
  clear D1
  have HB1 := Aside0.mk HB.out.size
  go_ret
  exact ⟨by first | rfl | (simp; done), HB.out⟩
/-- What the law's calls answer. -/
def laws_FnExactBudgetOrders.Facts (k : Nat) (l0 : List (List Int)) (a1 : Int) (a2 : Int) (l3 : List Int) (a4 : Int) : Prop := (((l3.length : Int) > 1048576)) ∨ (∃ (q0 : Int), (¬ (l3.length : Int) > 1048576) ∧ (laws_szIntSS.f k l0 (1048576) = some q0) ∧ (q0 < 0)) ∨ laws_FnExactBudgetOrders.Good k l0 a1 a2 l3 a4
theorem laws_FnExactBudgetOrders.calls (k : Nat) (A0 : Option Addr) (c0 : Nat) (l0 : List (List Int)) (a1 : Int) (a2 : Int) (A3 : Option Addr) (c3 : Nat) (l3 : List Int) (a4 : Int) (w : World) (hr0 : Kd.C (Kd.slice 3 (Kd.int .i64)) w A0 l0.length l0) (hc0 : l0.length ≤ c0) (hr3 : Kd.C (Kd.int .i64) w A3 l3.length l3) (hc3 : l3.length ≤ c3) (h : laws_FnExactBudgetOrders.Facts k l0 a1 a2 l3 a4) :
    Calls Try.prog 7 #[.slice A0 l0.length c0, .int .i64 a1, .int .i64 a2, .slice A3 l3.length c3, .int .i64 a4] w fun e w' => e = .returned (.bool true) ∧ Below w.heap.size w w' := by
  rcases h with f_lenp | ⟨q0, f_len_aPrices, f_sz0, f_neg⟩ | h
  · exact laws_FnExactBudgetOrders.large0 k A0 c0 l0 a1 a2 A3 c3 l3 a4 w hr0 hc0 hr3 hc3  f_lenp
  · exact laws_FnExactBudgetOrders.large1 k A0 c0 l0 a1 a2 A3 c3 l3 a4 w hr0 hc0 hr3 hc3 q0 f_len_aPrices f_sz0 f_neg
  · exact laws_FnExactBudgetOrders.good k A0 c0 l0 a1 a2 A3 c3 l3 a4 w hr0 hc0 hr3 hc3 h
end Go.Proofs.Ytnojmhcmngejnaa.PFnExactBudgetOrders
