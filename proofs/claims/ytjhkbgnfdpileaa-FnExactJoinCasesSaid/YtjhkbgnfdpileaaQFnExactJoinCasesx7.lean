/- Written by a program of this session (lawwalk.py): the walk of the law FnExactJoinCases, where every answer on the way is known; the facts that it asks are those of the pure statement. -/
import Derived.Test.YtjhkbgnfdpileaaPFnExactJoinCasesx0
import Derived.Test.YtjhkbgnfdpileaaPFnExactJoinCasesx1
import Derived.Test.YtjhkbgnfdpileaaPFnExactJoinCasesx2
import Derived.Test.YtjhkbgnfdpileaaPFnExactJoinCasesx3
import Derived.Test.YtjhkbgnfdpileaaPFnExactJoinCasesx4
import Derived.Test.YtjhkbgnfdpileaaQFnExactJoinCasesx5
import Derived.Test.YtjhkbgnfdpileaaQFnExactJoinCasesx6
import Derived.Test.YtjhkbgnfdpileaaHold
namespace Go.Proofs.Ytjhkbgnfdpileaa.PFnExactJoinCases
open Go.RowKit Go.Proofs.YtjhkbgnfdpileaaW.PrintWords Go.Proofs.YtjhkbgnfdpileaaW.PrintLast Go.Proofs.YtjhkbgnfdpileaaW.PrintMore Go.Proofs.Ytjhkbgnfdpileaa.Hold Go.Proofs.Ytjhkbgnfdpileaa.Hold
set_option linter.unusedVariables false
set_option linter.unusedSimpArgs false
/-- What the law's calls answer, the case not being too large. -/
def laws_FnExactJoinCases.Good (k : Nat) (l0_0 : List Int) (l0_1 : List Int) (l0_2 : List Int) (l0_3 : List Int) (l1_0 : List Int) (l1_1 : List Int) (l1_2 : List Int) (l1_3 : List Int) : Prop := ∃ (q0 : Int) (q1 : Int) (R0 : List Int) (R1 : List Int) (R2 : List Int) (R3 : List Int) (b : Bool) (k0 : Int) (ml0_0 : List Int) (ml0_1 : List Int) (ml0_2 : List Int) (ml0_3 : List Int) (k1 : Int) (ml1_0 : List Int) (ml1_1 : List Int) (ml1_2 : List Int) (ml1_3 : List Int) (m : Int) (mR0 : List Int) (mR1 : List Int) (mR2 : List Int) (mR3 : List Int), (laws_szCase.f l0_0 l0_1 l0_2 l0_3 (1048576) = some q0) ∧ (0 ≤ q0) ∧ (laws_szCase.f l1_0 l1_1 l1_2 l1_3 (q0) = some q1) ∧ (0 ≤ q1) ∧ (laws_toCase.f k l0_0 l0_1 l0_2 l0_3 = some (l0_0, l0_1, l0_2, l0_3)) ∧ (laws_toCase.f k l1_0 l1_1 l1_2 l1_3 = some (l1_0, l1_1, l1_2, l1_3)) ∧ (spec_JoinCases.f k l0_0 l0_1 l0_2 l0_3 l1_0 l1_1 l1_2 l1_3 = some (R0, R1, R2, R3, b)) ∧ (impl_JoinCases.f k l0_0 l0_1 l0_2 l0_3 l1_0 l1_1 l1_2 l1_3 = some (R0, R1, R2, R3, b)) ∧ (laws_eqCase.f k R0 R1 R2 R3 R0 R1 R2 R3 = some true) ∧ (laws_eqCase.f k l0_0 l0_1 l0_2 l0_3 l0_0 l0_1 l0_2 l0_3 = some true) ∧ (laws_eqCase.f k l1_0 l1_1 l1_2 l1_3 l1_0 l1_1 l1_2 l1_3 = some true) ∧ (laws_markCase.f k l0_0 l0_1 l0_2 l0_3 (1) = some (k0, ml0_0, ml0_1, ml0_2, ml0_3)) ∧ (0 ≤ k0) ∧ (laws_markCase.f k l1_0 l1_1 l1_2 l1_3 (k0) = some (k1, ml1_0, ml1_1, ml1_2, ml1_3)) ∧ (0 ≤ k1) ∧ (laws_markCase.f k R0 R1 R2 R3 1 = some (m, mR0, mR1, mR2, mR3)) ∧ (laws_heldCase.f k mR0 mR1 mR2 mR3 1 = some m) ∧ (0 ≤ m) ∧ (mR0.length = R0.length) ∧ (mR1.length = R1.length) ∧ (mR2.length = R2.length) ∧ (mR3.length = R3.length)
def laws_FnExactJoinCases.T8 : Bool × List (List Nat × List Nat) := (true, [([], []), ([0], [0]), ([], []), ([2, 1], [2]), ([1, 3, 3], [1, 3]), ([4], [4]), ([5], [5]), ([5], [5]), ([], []), ([8, 6, 4, 0, 1, 2, 3, 4, 5, 6, 8], [6, 8]), ([7, 9, 0, 1, 2, 3, 4, 5, 6, 7, 8, 9], [7])])
def laws_FnExactJoinCases.B8 : List Nat := [0, 1, 0, 7, 15, 31, 63, 63, 0, 383, 1023]
theorem laws_FnExactJoinCases.tab8 : rtab .any (opsOf Try.f4 8) = laws_FnExactJoinCases.T8 := by kernel_rfl
theorem laws_FnExactJoinCases.bits8 : waitsOk laws_FnExactJoinCases.T8.2 laws_FnExactJoinCases.B8 = true := by kernel_rfl
def laws_FnExactJoinCases.T31 : Bool × List (List Nat × List Nat) := (true, [([], []), ([0], [0]), ([], []), ([2, 1], [2]), ([1, 3, 3], [1, 3]), ([4], [4]), ([5], [5]), ([5], [5]), ([], []), ([8, 6, 4, 0, 1, 2, 3, 4, 5, 6, 8], [6, 8]), ([7, 9, 0, 1, 2, 3, 4, 5, 6, 7, 8, 9], [7])])
def laws_FnExactJoinCases.B31 : List Nat := [0, 1, 0, 7, 15, 31, 63, 63, 0, 383, 1023]
theorem laws_FnExactJoinCases.tab31 : rtab .any (opsOf Try.f4 31) = laws_FnExactJoinCases.T31 := by kernel_rfl
theorem laws_FnExactJoinCases.bits31 : waitsOk laws_FnExactJoinCases.T31.2 laws_FnExactJoinCases.B31 = true := by kernel_rfl
set_option maxHeartbeats 8000000 in
set_option maxRecDepth 100000 in
theorem laws_FnExactJoinCases.good (k : Nat) (A0_0 : Option Addr) (c0_0 : Nat) (l0_0 : List Int) (A0_1 : Option Addr) (c0_1 : Nat) (l0_1 : List Int) (A0_2 : Option Addr) (c0_2 : Nat) (l0_2 : List Int) (A0_3 : Option Addr) (c0_3 : Nat) (l0_3 : List Int) (A1_0 : Option Addr) (c1_0 : Nat) (l1_0 : List Int) (A1_1 : Option Addr) (c1_1 : Nat) (l1_1 : List Int) (A1_2 : Option Addr) (c1_2 : Nat) (l1_2 : List Int) (A1_3 : Option Addr) (c1_3 : Nat) (l1_3 : List Int) (w : World) (hr0_0 : Kd.C (Kd.int .i64) w A0_0 l0_0.length l0_0) (hc0_0 : l0_0.length ≤ c0_0) (hr0_1 : Kd.C (Kd.int .i64) w A0_1 l0_1.length l0_1) (hc0_1 : l0_1.length ≤ c0_1) (hr0_2 : Kd.C (Kd.int .i64) w A0_2 l0_2.length l0_2) (hc0_2 : l0_2.length ≤ c0_2) (hr0_3 : Kd.C (Kd.int .i64) w A0_3 l0_3.length l0_3) (hc0_3 : l0_3.length ≤ c0_3) (hr1_0 : Kd.C (Kd.int .i64) w A1_0 l1_0.length l1_0) (hc1_0 : l1_0.length ≤ c1_0) (hr1_1 : Kd.C (Kd.int .i64) w A1_1 l1_1.length l1_1) (hc1_1 : l1_1.length ≤ c1_1) (hr1_2 : Kd.C (Kd.int .i64) w A1_2 l1_2.length l1_2) (hc1_2 : l1_2.length ≤ c1_2) (hr1_3 : Kd.C (Kd.int .i64) w A1_3 l1_3.length l1_3) (hc1_3 : l1_3.length ≤ c1_3) (h : laws_FnExactJoinCases.Good k l0_0 l0_1 l0_2 l0_3 l1_0 l1_1 l1_2 l1_3) :
    Calls Try.prog 4 #[.agg #[.slice A0_0 l0_0.length c0_0, .slice A0_1 l0_1.length c0_1, .slice A0_2 l0_2.length c0_2, .slice A0_3 l0_3.length c0_3], .agg #[.slice A1_0 l1_0.length c1_0, .slice A1_1 l1_1.length c1_1, .slice A1_2 l1_2.length c1_2, .slice A1_3 l1_3.length c1_3]] w fun e w' => e = .returned (.bool true) ∧ Below w.heap.size w w' := by
  have HR0_0 := Aside0.mk hr0_0
  have HC0_0 := Aside0.mk hc0_0
  clear hr0_0 hc0_0
  have HR0_1 := Aside0.mk hr0_1
  have HC0_1 := Aside0.mk hc0_1
  clear hr0_1 hc0_1
  have HR0_2 := Aside0.mk hr0_2
  have HC0_2 := Aside0.mk hc0_2
  clear hr0_2 hc0_2
  have HR0_3 := Aside0.mk hr0_3
  have HC0_3 := Aside0.mk hc0_3
  clear hr0_3 hc0_3
  have HR1_0 := Aside0.mk hr1_0
  have HC1_0 := Aside0.mk hc1_0
  clear hr1_0 hc1_0
  have HR1_1 := Aside0.mk hr1_1
  have HC1_1 := Aside0.mk hc1_1
  clear hr1_1 hc1_1
  have HR1_2 := Aside0.mk hr1_2
  have HC1_2 := Aside0.mk hc1_2
  clear hr1_2 hc1_2
  have HR1_3 := Aside0.mk hr1_3
  have HC1_3 := Aside0.mk hc1_3
  clear hr1_3 hc1_3
  have HB := Aside0.mk (Below.refl w.heap.size w)
  have HB0 := Aside0.mk HB.out.size
  obtain ⟨q0, q1, R0, R1, R2, R3, b, k0, ml0_0, ml0_1, ml0_2, ml0_3, k1, ml1_0, ml1_1, ml1_2, ml1_3, m, mR0, mR1, mR2, mR3, f_sz0, f_nn0, f_sz1, f_nn1, f_toaA, f_toaB, f_spec, f_impl, f_eqR, f_eqaA, f_eqaB, f_mkaA, f_mn0, f_mkaB, f_mn1, f_mkR, f_held, f_mm, f_lnR0, f_lnR1, f_lnR2, f_lnR3⟩ := h
  have F_sz0 := Aside0.mk f_sz0
  clear f_sz0
  have t_nn0 : decide (q0 < 0) = false := decide_eq_false (by omega)
  clear f_nn0
  have F_sz1 := Aside0.mk f_sz1
  clear f_sz1
  have t_nn1 : decide (q1 < 0) = false := decide_eq_false (by omega)
  clear f_nn1
  have F_toaA := Aside0.mk f_toaA
  clear f_toaA
  have F_toaB := Aside0.mk f_toaB
  clear f_toaB
  have F_spec := Aside0.mk f_spec
  clear f_spec
  have F_impl := Aside0.mk f_impl
  clear f_impl
  have F_eqR := Aside0.mk f_eqR
  clear f_eqR
  have F_eqaA := Aside0.mk f_eqaA
  clear f_eqaA
  have F_eqaB := Aside0.mk f_eqaB
  clear f_eqaB
  have F_mkaA := Aside0.mk f_mkaA
  clear f_mkaA
  have t_mn0 : decide (k0 < 0) = false := decide_eq_false (by omega)
  clear f_mn0
  have F_mkaB := Aside0.mk f_mkaB
  clear f_mkaB
  have t_mn1 : decide (k1 < 0) = false := decide_eq_false (by omega)
  clear f_mn1
  have F_mkR := Aside0.mk f_mkR
  clear f_mkR
  have F_held := Aside0.mk f_held
  clear f_held
  have t_mm : decide (m < 0) = false := decide_eq_false (by omega)
  clear f_mm
  have L_lnR0 := Aside0.mk f_lnR0
  clear f_lnR0
  have L_lnR1 := Aside0.mk f_lnR1
  clear f_lnR1
  have L_lnR2 := Aside0.mk f_lnR2
  clear f_lnR2
  have L_lnR3 := Aside0.mk f_lnR3
  clear f_lnR3
  go_enter Try.func4, Try.ntmps4
  go_wp2_with (first | ((with_reducible refine gate_dst (N := 2) rfl ?_); refine box_event ?hg (N := 2) ?hd (cs := #[.slice A0_0 l0_0.length c0_0, .slice A0_1 l0_1.length c0_1, .slice A0_2 l0_2.length c0_2, .slice A0_3 l0_3.length c0_3]) (t := 24) ?hr ?_; (case hd => rfl); (case hg => rfl); (case hr => first | (go_simp; done) | (go_simp; rfl)); intro g2 hg w1 hbox hb; have BK_paA := Aside0.mk hbox; have NB_paA := Aside0.mk (show w.heap.size ≤ g2 ∧ g2 < w1.heap.size from ⟨Nat.le_of_eq hg.symm, blk_lt hbox⟩); have D1 := Aside0.mk hb; clear hbox hg hb; have F1 := Aside0.mk (Fr.of_below D1.out); have HBn := Aside0.mk (below_step HB.out D1.out); clear HB; have HB := HBn; clear HBn; have G1 := Aside0.mk F1.out.1; have HB1 := Aside0.mk HB.out.size; clear D1) | ((with_reducible refine gate_dst (N := 3) rfl ?_); refine box_event ?hg (N := 3) ?hd (cs := #[.slice A1_0 l1_0.length c1_0, .slice A1_1 l1_1.length c1_1, .slice A1_2 l1_2.length c1_2, .slice A1_3 l1_3.length c1_3]) (t := 24) ?hr ?_; (case hd => rfl); (case hg => rfl); (case hr => first | (go_simp; done) | (go_simp; rfl)); intro g3 hg w2 hbox hb; have BK_paB := Aside0.mk hbox; have NB_paB := Aside0.mk (show w1.heap.size ≤ g3 ∧ g3 < w2.heap.size from ⟨Nat.le_of_eq hg.symm, blk_lt hbox⟩); have D2 := Aside0.mk hb; clear hbox hg hb; have F2 := Aside0.mk (Fr.of_below D2.out); have HBn := Aside0.mk (below_step HB.out D2.out); clear HB; have HB := HBn; clear HBn; have G2 := Aside0.mk F2.out.1; have HB2 := Aside0.mk HB.out.size; clear D2; have BK_paAn := Aside0.mk (Fr.blk (BK_paA.out) F2.out (.inr (Nat.zero_le _))); clear BK_paA; have BK_paA := BK_paAn; clear BK_paAn; have hc_paA_0 : w2.cell? ⟨g2, 0, none⟩ = some (.slice A0_0 l0_0.length c0_0) := (blk_cell BK_paA.out 0).trans rfl; have hc_paA_1 : w2.cell? ⟨g2, 1, none⟩ = some (.slice A0_1 l0_1.length c0_1) := (blk_cell BK_paA.out 1).trans rfl; have hc_paA_2 : w2.cell? ⟨g2, 2, none⟩ = some (.slice A0_2 l0_2.length c0_2) := (blk_cell BK_paA.out 2).trans rfl; have hc_paA_3 : w2.cell? ⟨g2, 3, none⟩ = some (.slice A0_3 l0_3.length c0_3) := (blk_cell BK_paA.out 3).trans rfl))
  go_wp2_with (first | (go_at_call 5; (with_reducible refine (laws_szCase.calls _ _ l0_0 _ _ l0_1 _ _ l0_2 _ _ l0_3 (1048576) q0 (w2) (Kd.C_below HR0_0.out HB.out) HC0_0.out (Kd.C_below HR0_1.out HB.out) HC0_1.out (Kd.C_below HR0_2.out HB.out) HC0_2.out (Kd.C_below HR0_3.out HB.out) HC0_3.out (F_sz0.out)).mono ?_); rintro e w3 ⟨rfl, hb⟩; have D3 := Aside0.mk hb; clear hb; have F3 := Aside0.mk (Fr.of_below D3.out); have HBn := Aside0.mk (below_step HB.out D3.out); clear HB; have HB := HBn; clear HBn; have G3 := Aside0.mk F3.out.1; have HB3 := Aside0.mk HB.out.size; have BK_paBn := Aside0.mk (Fr.blk (BK_paB.out) F3.out (.inr (Nat.zero_le _))); clear BK_paB; have BK_paB := BK_paBn; clear BK_paBn; have hc_paB_0 : w3.cell? ⟨g3, 0, none⟩ = some (.slice A1_0 l1_0.length c1_0) := (blk_cell BK_paB.out 0).trans rfl; have hc_paB_1 : w3.cell? ⟨g3, 1, none⟩ = some (.slice A1_1 l1_1.length c1_1) := (blk_cell BK_paB.out 1).trans rfl; have hc_paB_2 : w3.cell? ⟨g3, 2, none⟩ = some (.slice A1_2 l1_2.length c1_2) := (blk_cell BK_paB.out 2).trans rfl; have hc_paB_3 : w3.cell? ⟨g3, 3, none⟩ = some (.slice A1_3 l1_3.length c1_3) := (blk_cell BK_paB.out 3).trans rfl))
  go_wp2_with (first | (go_at_call 5; (with_reducible refine (laws_szCase.calls _ _ l1_0 _ _ l1_1 _ _ l1_2 _ _ l1_3 (q0) q1 (w3) (Kd.C_below HR1_0.out HB.out) HC1_0.out (Kd.C_below HR1_1.out HB.out) HC1_1.out (Kd.C_below HR1_2.out HB.out) HC1_2.out (Kd.C_below HR1_3.out HB.out) HC1_3.out (F_sz1.out)).mono ?_); rintro e w4 ⟨rfl, hb⟩; have D4 := Aside0.mk hb; clear hb; have F4 := Aside0.mk (Fr.of_below D4.out); have HBn := Aside0.mk (below_step HB.out D4.out); clear HB; have HB := HBn; clear HBn; have G4 := Aside0.mk F4.out.1; have HB4 := Aside0.mk HB.out.size; have BK_paAn := Aside0.mk (Fr.blk (Fr.blk (BK_paA.out) F3.out (.inr (Nat.zero_le _))) F4.out (.inr (Nat.zero_le _))); clear BK_paA; have BK_paA := BK_paAn; clear BK_paAn; clear hc_paA_0; have hc_paA_0 : w4.cell? ⟨g2, 0, none⟩ = some (.slice A0_0 l0_0.length c0_0) := (blk_cell BK_paA.out 0).trans rfl; clear hc_paA_1; have hc_paA_1 : w4.cell? ⟨g2, 1, none⟩ = some (.slice A0_1 l0_1.length c0_1) := (blk_cell BK_paA.out 1).trans rfl; clear hc_paA_2; have hc_paA_2 : w4.cell? ⟨g2, 2, none⟩ = some (.slice A0_2 l0_2.length c0_2) := (blk_cell BK_paA.out 2).trans rfl; clear hc_paA_3; have hc_paA_3 : w4.cell? ⟨g2, 3, none⟩ = some (.slice A0_3 l0_3.length c0_3) := (blk_cell BK_paA.out 3).trans rfl))
  clear hc_paA_0 hc_paA_1 hc_paA_2 hc_paA_3 hc_paB_0 hc_paB_1 hc_paB_2 hc_paB_3
  have BK_paBn := Aside0.mk (Fr.blk (BK_paB.out) F4.out (.inr (Nat.zero_le _)))
  clear BK_paB
  have BK_paB := BK_paBn
  clear BK_paBn
  refine start_ (n := 11) (S := fun W_ => W_.heap[g2]? = some (.cells #[.slice A0_0 l0_0.length c0_0, .slice A0_1 l0_1.length c0_1, .slice A0_2 l0_2.length c0_2, .slice A0_3 l0_3.length c0_3] 24 (0, 0)) ∧ W_.heap[g3]? = some (.cells #[.slice A1_0 l1_0.length c1_0, .slice A1_1 l1_1.length c1_1, .slice A1_2 l1_2.length c1_2, .slice A1_3 l1_3.length c1_3] 24 (0, 0))) (ds := [9]) #[false, false, false, false, false, false, false, false, false, false, false] (by kernel_rfl) rfl rfl ⟨BK_paA.out, BK_paB.out⟩ (fun hHeld => ?_); refine with_tabW laws_FnExactJoinCases.tab8 laws_FnExactJoinCases.bits8 (fun HT_ HW_ => ?_)
  refine take_ (i := 0) (N := some 28) (v := ?_) (a' := ?_) #[true, false, false, false, false, false, false, false, false, false, false] rfl rfl (take_ofW HT_.out HW_.out (by kernel_rfl)) (fun _ _ _ h => h) (Or.inl ⟨by rfl, ?_⟩) hHeld ?_ ?_
  rotate_left
  · rintro w' ⟨s0, s1⟩
    have s0_ := (blk_cell s0 0).trans (show _ = some (.slice A0_0 l0_0.length c0_0 : Value) from rfl)
    have s1_ := (blk_cell s0 1).trans (show _ = some (.slice A0_1 l0_1.length c0_1 : Value) from rfl)
    have s2_ := (blk_cell s0 2).trans (show _ = some (.slice A0_2 l0_2.length c0_2 : Value) from rfl)
    have s3_ := (blk_cell s0 3).trans (show _ = some (.slice A0_3 l0_3.length c0_3 : Value) from rfl)
    go_simp
    (try with_reducible rfl)
  rotate_left
  · simp only [Act.put, List.setIfInBounds_toArray, List.set_cons_zero, List.set_cons_succ, i64_w, i32_w]
    rfl
  refine take_ (i := 2) (N := some 30) (v := ?_) (a' := ?_) #[true, false, true, false, false, false, false, false, false, false, false] rfl rfl (take_ofW HT_.out HW_.out (by kernel_rfl)) (fun _ _ _ h => h) (Or.inl ⟨by rfl, ?_⟩) hHeld ?_ ?_
  rotate_left
  · rintro w' ⟨s0, s1⟩
    have s0_ := (blk_cell s1 0).trans (show _ = some (.slice A1_0 l1_0.length c1_0 : Value) from rfl)
    have s1_ := (blk_cell s1 1).trans (show _ = some (.slice A1_1 l1_1.length c1_1 : Value) from rfl)
    have s2_ := (blk_cell s1 2).trans (show _ = some (.slice A1_2 l1_2.length c1_2 : Value) from rfl)
    have s3_ := (blk_cell s1 3).trans (show _ = some (.slice A1_3 l1_3.length c1_3 : Value) from rfl)
    go_simp
    (try with_reducible rfl)
  rotate_left
  · simp only [Act.put, List.setIfInBounds_toArray, List.set_cons_zero, List.set_cons_succ, i64_w, i32_w]
    rfl
  have SXX := Aside0.mk (show ∀ W' : World, Below w4.drew.heap.size w4.drew W' → (fun W_ => W_.heap[g2]? = some (.cells #[.slice A0_0 l0_0.length c0_0, .slice A0_1 l0_1.length c0_1, .slice A0_2 l0_2.length c0_2, .slice A0_3 l0_3.length c0_3] 24 (0, 0)) ∧ W_.heap[g3]? = some (.cells #[.slice A1_0 l1_0.length c1_0, .slice A1_1 l1_1.length c1_1, .slice A1_2 l1_2.length c1_2, .slice A1_3 l1_3.length c1_3] 24 (0, 0))) W' from fun W' hb => ⟨(hb.block g2 (blk_lt (show w4.drew.heap[g2]? = _ from BK_paA.out))).trans BK_paA.out, (hb.block g3 (blk_lt (show w4.drew.heap[g3]? = _ from BK_paB.out))).trans BK_paB.out⟩)
  have HBD := Aside0.mk (below_drew1 HB.out)
  refine join_ 2 #[true, true, true, true, true, true, true, true, true, false, false] (fun s : Value × Value × Value × Value × Value × Value × Value × Value × Value × Value × Value × Value × Nat => [(29, .agg #[s.1, s.2.1, s.2.2.1, s.2.2.2.1]), (31, .agg #[s.2.2.2.2.1, s.2.2.2.2.2.1, s.2.2.2.2.2.2.1, s.2.2.2.2.2.2.2.1]), (32, .tuple #[.agg #[s.2.2.2.2.2.2.2.2.1, s.2.2.2.2.2.2.2.2.2.1, s.2.2.2.2.2.2.2.2.2.2.1, s.2.2.2.2.2.2.2.2.2.2.2.1], .bool b]), (27, .tuple #[.agg #[s.2.2.2.2.2.2.2.2.1, s.2.2.2.2.2.2.2.2.2.1, s.2.2.2.2.2.2.2.2.2.2.1, s.2.2.2.2.2.2.2.2.2.2.2.1], .bool b]), (33, .agg #[s.2.2.2.2.2.2.2.2.1, s.2.2.2.2.2.2.2.2.2.1, s.2.2.2.2.2.2.2.2.2.2.1, s.2.2.2.2.2.2.2.2.2.2.2.1]), (34, .bool b), (6, .pointer (some ⟨s.2.2.2.2.2.2.2.2.2.2.2.2, 0, none⟩))]) (fun s W_ => Below w4.drew.heap.size w4.drew W_ ∧ Kd.R (Kd.int .i64) 3 W_ w4.heap.size (fun k_ => some k_ ≠ (s.2.2.2.2.2.2.2.2.2.1 : Value).ownBlock ∧ some k_ ≠ (s.2.2.2.2.2.2.2.2.2.2.1 : Value).ownBlock ∧ some k_ ≠ (s.2.2.2.2.2.2.2.2.2.2.2.1 : Value).ownBlock) s.2.2.2.2.2.2.2.2.1 R0 ∧ Kd.R (Kd.int .i64) 3 W_ w4.heap.size (fun k_ => some k_ ≠ (s.2.2.2.2.2.2.2.2.1 : Value).ownBlock ∧ some k_ ≠ (s.2.2.2.2.2.2.2.2.2.2.1 : Value).ownBlock ∧ some k_ ≠ (s.2.2.2.2.2.2.2.2.2.2.2.1 : Value).ownBlock) s.2.2.2.2.2.2.2.2.2.1 R1 ∧ Kd.R (Kd.int .i64) 3 W_ w4.heap.size (fun k_ => some k_ ≠ (s.2.2.2.2.2.2.2.2.1 : Value).ownBlock ∧ some k_ ≠ (s.2.2.2.2.2.2.2.2.2.1 : Value).ownBlock ∧ some k_ ≠ (s.2.2.2.2.2.2.2.2.2.2.2.1 : Value).ownBlock) s.2.2.2.2.2.2.2.2.2.2.1 R2 ∧ Kd.R (Kd.int .i64) 3 W_ w4.heap.size (fun k_ => some k_ ≠ (s.2.2.2.2.2.2.2.2.1 : Value).ownBlock ∧ some k_ ≠ (s.2.2.2.2.2.2.2.2.2.1 : Value).ownBlock ∧ some k_ ≠ (s.2.2.2.2.2.2.2.2.2.2.1 : Value).ownBlock) s.2.2.2.2.2.2.2.2.2.2.2.1 R3 ∧ W_.heap[s.2.2.2.2.2.2.2.2.2.2.2.2]? = some (.cells #[.slice none 0 0, .slice none 0 0, .slice none 0 0, .slice none 0 0] 26 (0, 0)) ∧ w4.heap.size ≤ s.2.2.2.2.2.2.2.2.2.2.2.2 ∧ some s.2.2.2.2.2.2.2.2.2.2.2.2 ≠ (s.2.2.2.2.2.2.2.2.1 : Value).ownBlock ∧ some s.2.2.2.2.2.2.2.2.2.2.2.2 ≠ (s.2.2.2.2.2.2.2.2.2.1 : Value).ownBlock ∧ some s.2.2.2.2.2.2.2.2.2.2.2.2 ≠ (s.2.2.2.2.2.2.2.2.2.2.1 : Value).ownBlock ∧ some s.2.2.2.2.2.2.2.2.2.2.2.2 ≠ (s.2.2.2.2.2.2.2.2.2.2.2.1 : Value).ownBlock) ?_ ?_
  rotate_left
  · intro H_
    have S3_1 := Aside0.mk H_
    clear H_
    refine join_ 6 #[true, true, true, true, false, false, false, false, true, false, false] (fun s : Value × Value × Value × Value × Value × Value × Value × Value × Nat => [(29, .agg #[s.1, s.2.1, s.2.2.1, s.2.2.2.1]), (31, .agg #[s.2.2.2.2.1, s.2.2.2.2.2.1, s.2.2.2.2.2.2.1, s.2.2.2.2.2.2.2.1]), (6, .pointer (some ⟨s.2.2.2.2.2.2.2.2, 0, none⟩))]) (fun s W_ => Below w4.drew.heap.size w4.drew W_ ∧ Kd.R (Kd.int .i64) 3 W_ w.heap.size (fun _ => True) s.1 l0_0 ∧ Kd.R (Kd.int .i64) 3 W_ w.heap.size (fun _ => True) s.2.1 l0_1 ∧ Kd.R (Kd.int .i64) 3 W_ w.heap.size (fun _ => True) s.2.2.1 l0_2 ∧ Kd.R (Kd.int .i64) 3 W_ w.heap.size (fun _ => True) s.2.2.2.1 l0_3 ∧ Kd.R (Kd.int .i64) 3 W_ w.heap.size (fun _ => True) s.2.2.2.2.1 l1_0 ∧ Kd.R (Kd.int .i64) 3 W_ w.heap.size (fun _ => True) s.2.2.2.2.2.1 l1_1 ∧ Kd.R (Kd.int .i64) 3 W_ w.heap.size (fun _ => True) s.2.2.2.2.2.2.1 l1_2 ∧ Kd.R (Kd.int .i64) 3 W_ w.heap.size (fun _ => True) s.2.2.2.2.2.2.2.1 l1_3 ∧ W_.heap[s.2.2.2.2.2.2.2.2]? = some (.cells #[.slice none 0 0, .slice none 0 0, .slice none 0 0, .slice none 0 0] 26 (0, 0)) ∧ w4.heap.size ≤ s.2.2.2.2.2.2.2.2) ?_ ?_
    · rintro ⟨x0, x1, x2, x3, y0, y1, y2, y3, g_⟩ W ⟨hb, fx0, fx1, fx2, fx3, fy0, fy1, fy2, fy3, fg, fle⟩
      refine norm_ (a' := ?_) ?_ ?_
      rotate_left
      · show putAll _ _ = _
        simp only [putAll, Act.put, List.setIfInBounds_toArray, List.set_cons_zero, List.set_cons_succ, i64_w, i32_w]
        rfl
      refine one_ (i := 4) (N := some 32) #[true, true, true, true, true, false, false, false, true, false, false] rfl rfl (one_of HT_.out (by kernel_rfl)) (by decide) (fun K hK => ?_)
      · obtain ⟨Ax0, cx0, rfl⟩ := Kd.R_slice fx0
        obtain ⟨Ax1, cx1, rfl⟩ := Kd.R_slice fx1
        obtain ⟨Ax2, cx2, rfl⟩ := Kd.R_slice fx2
        obtain ⟨Ax3, cx3, rfl⟩ := Kd.R_slice fx3
        obtain ⟨Ay0, cy0, rfl⟩ := Kd.R_slice fy0
        obtain ⟨Ay1, cy1, rfl⟩ := Kd.R_slice fy1
        obtain ⟨Ay2, cy2, rfl⟩ := Kd.R_slice fy2
        obtain ⟨Ay3, cy3, rfl⟩ := Kd.R_slice fy3
        refine goes_ Try.func12 (by kernel_rfl) rfl #[.agg #[.slice Ax0 l0_0.length cx0, .slice Ax1 l0_1.length cx1, .slice Ax2 l0_2.length cx2, .slice Ax3 l0_3.length cx3], .agg #[.slice Ay0 l1_0.length cy0, .slice Ay1 l1_1.length cy1, .slice Ay2 l1_2.length cy2, .slice Ay3 l1_3.length cy3]] (by rfl) rfl rfl (by (try simp only [List.map_toArray, List.map_cons, List.map_nil]); first | done | rfl) ?_
        have hbw := below_step HBD.out hb
        refine (spec_JoinCases.calls k _ _ l0_0 _ _ l0_1 _ _ l0_2 _ _ l0_3 _ _ l1_0 _ _ l1_1 _ _ l1_2 _ _ l1_3 R0 R1 R2 R3 b W (Kd.R_reads' fx0).2.2 (Kd.R_reads' fx0).2.1 (Kd.R_reads' fx1).2.2 (Kd.R_reads' fx1).2.1 (Kd.R_reads' fx2).2.2 (Kd.R_reads' fx2).2.1 (Kd.R_reads' fx3).2.2 (Kd.R_reads' fx3).2.1 (Kd.R_reads' fy0).2.2 (Kd.R_reads' fy0).2.1 (Kd.R_reads' fy1).2.2 (Kd.R_reads' fy1).2.1 (Kd.R_reads' fy2).2.2 (Kd.R_reads' fy2).2.1 (Kd.R_reads' fy3).2.2 (Kd.R_reads' fy3).2.1 F_spec.out).mono ?_
        rintro e W2 ⟨z0, z1, z2, z3, rfl, ho0, ho1, ho2, ho3, hbl⟩
        refine ⟨_, rfl, ?_⟩
        have hbn := below_step hb hbl
        refine hK.out _ _ (SXX.out _ hbn) (fun hHeld => ?_)
        clear hK K
        refine norm_ (a' := ?_) ?_ ?_
        rotate_left
        · show Act.put _ (some 32) _ = _
          simp only [Act.put, List.setIfInBounds_toArray, List.set_cons_zero, List.set_cons_succ, i64_w, i32_w]
          rfl
        refine pure_ (i := 5) (N := some 27) (v := ?_) (a' := ?_) #[true, true, true, true, true, true, false, false, true, false, false] rfl rfl (any_of HT_.out (by kernel_rfl)) (fun _ _ _ h => h) (Or.inl ⟨by rfl, ?_⟩) ?_ ?_
        rotate_left
        · intro w'
          go_simp
          (try with_reducible rfl)
        rotate_left
        · simp only [Act.put, List.setIfInBounds_toArray, List.set_cons_zero, List.set_cons_succ, i64_w, i32_w]
          rfl
        refine pure_ (i := 6) (N := some 33) (v := ?_) (a' := ?_) #[true, true, true, true, true, true, true, false, true, false, false] rfl rfl (any_of HT_.out (by kernel_rfl)) (fun _ _ _ h => h) (Or.inl ⟨by rfl, ?_⟩) ?_ ?_
        rotate_left
        · intro w'
          go_simp
          (try with_reducible rfl)
        rotate_left
        · simp only [Act.put, List.setIfInBounds_toArray, List.set_cons_zero, List.set_cons_succ, i64_w, i32_w]
          rfl
        refine pure_ (i := 7) (N := some 34) (v := ?_) (a' := ?_) #[true, true, true, true, true, true, true, true, true, false, false] rfl rfl (any_of HT_.out (by kernel_rfl)) (fun _ _ _ h => h) (Or.inl ⟨by rfl, ?_⟩) ?_ ?_
        rotate_left
        · intro w'
          go_simp
          (try with_reducible rfl)
        rotate_left
        · simp only [Act.put, List.setIfInBounds_toArray, List.set_cons_zero, List.set_cons_succ, i64_w, i32_w]
          rfl
        have hc := S3_1.out (.slice Ax0 l0_0.length cx0, .slice Ax1 l0_1.length cx1, .slice Ax2 l0_2.length cx2, .slice Ax3 l0_3.length cx3, .slice Ay0 l1_0.length cy0, .slice Ay1 l1_1.length cy1, .slice Ay2 l1_2.length cy2, .slice Ay3 l1_3.length cy3, z0, z1, z2, z3, g_) _ ⟨hbn, Kd.R_lower ho0 hb.size, Kd.R_lower ho1 hb.size, Kd.R_lower ho2 hb.size, Kd.R_lower ho3 hb.size, (hbl.block g_ (blk_lt fg)).trans fg, fle, fun e_ => absurd (blk_lt fg) (Nat.not_lt.2 (Kd.R_base ho0 _ e_.symm)), fun e_ => absurd (blk_lt fg) (Nat.not_lt.2 (Kd.R_base ho1 _ e_.symm)), fun e_ => absurd (blk_lt fg) (Nat.not_lt.2 (Kd.R_base ho2 _ e_.symm)), fun e_ => absurd (blk_lt fg) (Nat.not_lt.2 (Kd.R_base ho3 _ e_.symm))⟩
        simp only [putAll, Act.put, List.setIfInBounds_toArray, List.set_cons_zero, List.set_cons_succ] at hc
        exact hc
    intro H_
    have S2_1 := Aside0.mk H_
    clear H_
    refine join_ 3 #[true, true, true, true, true, true, true, true, false, false, false] (fun s : Value × Value × Value × Value × Value × Value × Value × Value × Value × Value × Value × Value => [(29, .agg #[s.1, s.2.1, s.2.2.1, s.2.2.2.1]), (31, .agg #[s.2.2.2.2.1, s.2.2.2.2.2.1, s.2.2.2.2.2.2.1, s.2.2.2.2.2.2.2.1]), (32, .tuple #[.agg #[s.2.2.2.2.2.2.2.2.1, s.2.2.2.2.2.2.2.2.2.1, s.2.2.2.2.2.2.2.2.2.2.1, s.2.2.2.2.2.2.2.2.2.2.2], .bool b]), (27, .tuple #[.agg #[s.2.2.2.2.2.2.2.2.1, s.2.2.2.2.2.2.2.2.2.1, s.2.2.2.2.2.2.2.2.2.2.1, s.2.2.2.2.2.2.2.2.2.2.2], .bool b]), (33, .agg #[s.2.2.2.2.2.2.2.2.1, s.2.2.2.2.2.2.2.2.2.1, s.2.2.2.2.2.2.2.2.2.2.1, s.2.2.2.2.2.2.2.2.2.2.2]), (34, .bool b)]) (fun s W_ => Below w4.drew.heap.size w4.drew W_ ∧ Kd.R (Kd.int .i64) 3 W_ w4.heap.size (fun k_ => some k_ ≠ (s.2.2.2.2.2.2.2.2.2.1 : Value).ownBlock ∧ some k_ ≠ (s.2.2.2.2.2.2.2.2.2.2.1 : Value).ownBlock ∧ some k_ ≠ (s.2.2.2.2.2.2.2.2.2.2.2 : Value).ownBlock) s.2.2.2.2.2.2.2.2.1 R0 ∧ Kd.R (Kd.int .i64) 3 W_ w4.heap.size (fun k_ => some k_ ≠ (s.2.2.2.2.2.2.2.2.1 : Value).ownBlock ∧ some k_ ≠ (s.2.2.2.2.2.2.2.2.2.2.1 : Value).ownBlock ∧ some k_ ≠ (s.2.2.2.2.2.2.2.2.2.2.2 : Value).ownBlock) s.2.2.2.2.2.2.2.2.2.1 R1 ∧ Kd.R (Kd.int .i64) 3 W_ w4.heap.size (fun k_ => some k_ ≠ (s.2.2.2.2.2.2.2.2.1 : Value).ownBlock ∧ some k_ ≠ (s.2.2.2.2.2.2.2.2.2.1 : Value).ownBlock ∧ some k_ ≠ (s.2.2.2.2.2.2.2.2.2.2.2 : Value).ownBlock) s.2.2.2.2.2.2.2.2.2.2.1 R2 ∧ Kd.R (Kd.int .i64) 3 W_ w4.heap.size (fun k_ => some k_ ≠ (s.2.2.2.2.2.2.2.2.1 : Value).ownBlock ∧ some k_ ≠ (s.2.2.2.2.2.2.2.2.2.1 : Value).ownBlock ∧ some k_ ≠ (s.2.2.2.2.2.2.2.2.2.2.1 : Value).ownBlock) s.2.2.2.2.2.2.2.2.2.2.2 R3) ?_ ?_
    · rintro ⟨x0, x1, x2, x3, y0, y1, y2, y3, z0, z1, z2, z3⟩ W ⟨hb, fz0, fz1, fz2, fz3⟩
      refine norm_ (a' := ?_) ?_ ?_
      rotate_left
      · show putAll _ _ = _
        simp only [putAll, Act.put, List.setIfInBounds_toArray, List.set_cons_zero, List.set_cons_succ, i64_w, i32_w]
        rfl
      refine one_ (i := 8) (N := some 6) #[true, true, true, true, true, true, true, true, true, false, false] rfl rfl (one_of HT_.out (by kernel_rfl)) (by decide) (fun K hK => ?_)
      · refine value_ (w1 := ?_) (v := ?_) (by rfl) rfl ?_ ?_
        rotate_left 2
        · go_simp
          constructor
          · rfl
          · rfl
        have hbl := below_alloc (Below.refl W.heap.size W) (Obj.cells #[.slice none 0 0, .slice none 0 0, .slice none 0 0, .slice none 0 0] 26)
        have hbn := below_step hb hbl
        refine hK.out _ _ (SXX.out _ hbn) (fun hHeld => ?_)
        clear hK K
        refine norm_ (a' := ?_) ?_ ?_
        rotate_left
        · show Act.put _ (some 6) _ = _
          simp only [Act.put, List.setIfInBounds_toArray, List.set_cons_zero, List.set_cons_succ, i64_w, i32_w]
          rfl
        have hc := S3_1.out (x0, x1, x2, x3, y0, y1, y2, y3, z0, z1, z2, z3, W.heap.size) _ ⟨hbn, Kd.R_below fz0 hbl, Kd.R_below fz1 hbl, Kd.R_below fz2 hbl, Kd.R_below fz3 hbl, Go.heap_alloc_new W _, hb.size, fun e_ => absurd ((Kd.R_bound fz0).1 _ e_.symm).2.2.1 (Nat.lt_irrefl _), fun e_ => absurd ((Kd.R_bound fz1).1 _ e_.symm).2.2.1 (Nat.lt_irrefl _), fun e_ => absurd ((Kd.R_bound fz2).1 _ e_.symm).2.2.1 (Nat.lt_irrefl _), fun e_ => absurd ((Kd.R_bound fz3).1 _ e_.symm).2.2.1 (Nat.lt_irrefl _)⟩
        simp only [putAll, Act.put, List.setIfInBounds_toArray, List.set_cons_zero, List.set_cons_succ] at hc
        exact hc
    intro H_
    have S3_0 := Aside0.mk H_
    clear H_
    refine join_ 7 #[true, true, true, false, false, false, false, false, true, false, false] (fun s : Value × Value × Value × Value × Nat => [(29, .agg #[s.1, s.2.1, s.2.2.1, s.2.2.2.1]), (6, .pointer (some ⟨s.2.2.2.2, 0, none⟩))]) (fun s W_ => Below w4.drew.heap.size w4.drew W_ ∧ Kd.R (Kd.int .i64) 3 W_ w.heap.size (fun _ => True) s.1 l0_0 ∧ Kd.R (Kd.int .i64) 3 W_ w.heap.size (fun _ => True) s.2.1 l0_1 ∧ Kd.R (Kd.int .i64) 3 W_ w.heap.size (fun _ => True) s.2.2.1 l0_2 ∧ Kd.R (Kd.int .i64) 3 W_ w.heap.size (fun _ => True) s.2.2.2.1 l0_3 ∧ W_.heap[s.2.2.2.2]? = some (.cells #[.slice none 0 0, .slice none 0 0, .slice none 0 0, .slice none 0 0] 26 (0, 0)) ∧ w4.heap.size ≤ s.2.2.2.2) ?_ ?_
    · rintro ⟨x0, x1, x2, x3, g_⟩ W ⟨hb, fx0, fx1, fx2, fx3, fg, fle⟩
      refine norm_ (a' := ?_) ?_ ?_
      rotate_left
      · show putAll _ _ = _
        simp only [putAll, Act.put, List.setIfInBounds_toArray, List.set_cons_zero, List.set_cons_succ, i64_w, i32_w]
        rfl
      refine one_ (i := 3) (N := some 31) #[true, true, true, true, false, false, false, false, true, false, false] rfl rfl (one_of HT_.out (by kernel_rfl)) (by decide) (fun K hK => ?_)
      · refine goes_ Try.func7 (by kernel_rfl) rfl #[.agg #[.slice A1_0 l1_0.length c1_0, .slice A1_1 l1_1.length c1_1, .slice A1_2 l1_2.length c1_2, .slice A1_3 l1_3.length c1_3]] (by rfl) rfl rfl (by (try simp only [List.map_toArray, List.map_cons, List.map_nil]); first | done | rfl) ?_
        have hbw := below_step HBD.out hb
        refine (laws_toCase.calls k _ _ l1_0 _ _ l1_1 _ _ l1_2 _ _ l1_3 l1_0 l1_1 l1_2 l1_3 W (Kd.C_below HR1_0.out hbw) HC1_0.out (Kd.C_below HR1_1.out hbw) HC1_1.out (Kd.C_below HR1_2.out hbw) HC1_2.out (Kd.C_below HR1_3.out hbw) HC1_3.out F_toaB.out).mono ?_
        rintro e W2 ⟨y0, y1, y2, y3, rfl, ho0, ho1, ho2, ho3, hbl⟩
        refine ⟨_, rfl, ?_⟩
        have hbn := below_step hb hbl
        refine hK.out _ _ (SXX.out _ hbn) (fun hHeld => ?_)
        clear hK K
        refine norm_ (a' := ?_) ?_ ?_
        rotate_left
        · show Act.put _ (some 31) _ = _
          simp only [Act.put, List.setIfInBounds_toArray, List.set_cons_zero, List.set_cons_succ, i64_w, i32_w]
          rfl
        have hc := S2_1.out (x0, x1, x2, x3, y0, y1, y2, y3, g_) _ ⟨hbn, Kd.R_below fx0 hbl, Kd.R_below fx1 hbl, Kd.R_below fx2 hbl, Kd.R_below fx3 hbl, Kd.R_lower (Kd.R_mono ho0 (fun _ _ => trivial)) hbw.size, Kd.R_lower (Kd.R_mono ho1 (fun _ _ => trivial)) hbw.size, Kd.R_lower (Kd.R_mono ho2 (fun _ _ => trivial)) hbw.size, Kd.R_lower (Kd.R_mono ho3 (fun _ _ => trivial)) hbw.size, (hbl.block g_ (blk_lt fg)).trans fg, fle⟩
        simp only [putAll, Act.put, List.setIfInBounds_toArray, List.set_cons_zero, List.set_cons_succ] at hc
        exact hc
    intro H_
    have S1_1 := Aside0.mk H_
    clear H_
    refine join_ 7 #[true, true, true, true, false, false, false, false, false, false, false] (fun s : Value × Value × Value × Value × Value × Value × Value × Value => [(29, .agg #[s.1, s.2.1, s.2.2.1, s.2.2.2.1]), (31, .agg #[s.2.2.2.2.1, s.2.2.2.2.2.1, s.2.2.2.2.2.2.1, s.2.2.2.2.2.2.2])]) (fun s W_ => Below w4.drew.heap.size w4.drew W_ ∧ Kd.R (Kd.int .i64) 3 W_ w.heap.size (fun _ => True) s.1 l0_0 ∧ Kd.R (Kd.int .i64) 3 W_ w.heap.size (fun _ => True) s.2.1 l0_1 ∧ Kd.R (Kd.int .i64) 3 W_ w.heap.size (fun _ => True) s.2.2.1 l0_2 ∧ Kd.R (Kd.int .i64) 3 W_ w.heap.size (fun _ => True) s.2.2.2.1 l0_3 ∧ Kd.R (Kd.int .i64) 3 W_ w.heap.size (fun _ => True) s.2.2.2.2.1 l1_0 ∧ Kd.R (Kd.int .i64) 3 W_ w.heap.size (fun _ => True) s.2.2.2.2.2.1 l1_1 ∧ Kd.R (Kd.int .i64) 3 W_ w.heap.size (fun _ => True) s.2.2.2.2.2.2.1 l1_2 ∧ Kd.R (Kd.int .i64) 3 W_ w.heap.size (fun _ => True) s.2.2.2.2.2.2.2 l1_3) ?_ ?_
    · rintro ⟨x0, x1, x2, x3, y0, y1, y2, y3⟩ W ⟨hb, fx0, fx1, fx2, fx3, fy0, fy1, fy2, fy3⟩
      refine norm_ (a' := ?_) ?_ ?_
      rotate_left
      · show putAll _ _ = _
        simp only [putAll, Act.put, List.setIfInBounds_toArray, List.set_cons_zero, List.set_cons_succ, i64_w, i32_w]
        rfl
      refine two_ (i := 4) (j := 8) (Ni := some 32) (Nj := some 6) #[true, true, true, true, true, false, false, false, false, false, false] #[true, true, true, true, false, false, false, false, true, false, false] rfl rfl rfl rfl (two_of HT_.out (by kernel_rfl)) (by decide) (by decide) (fun K hK => ?_) (fun K hK => ?_)
      · obtain ⟨Ax0, cx0, rfl⟩ := Kd.R_slice fx0
        obtain ⟨Ax1, cx1, rfl⟩ := Kd.R_slice fx1
        obtain ⟨Ax2, cx2, rfl⟩ := Kd.R_slice fx2
        obtain ⟨Ax3, cx3, rfl⟩ := Kd.R_slice fx3
        obtain ⟨Ay0, cy0, rfl⟩ := Kd.R_slice fy0
        obtain ⟨Ay1, cy1, rfl⟩ := Kd.R_slice fy1
        obtain ⟨Ay2, cy2, rfl⟩ := Kd.R_slice fy2
        obtain ⟨Ay3, cy3, rfl⟩ := Kd.R_slice fy3
        refine goes_ Try.func12 (by kernel_rfl) rfl #[.agg #[.slice Ax0 l0_0.length cx0, .slice Ax1 l0_1.length cx1, .slice Ax2 l0_2.length cx2, .slice Ax3 l0_3.length cx3], .agg #[.slice Ay0 l1_0.length cy0, .slice Ay1 l1_1.length cy1, .slice Ay2 l1_2.length cy2, .slice Ay3 l1_3.length cy3]] (by rfl) rfl rfl (by (try simp only [List.map_toArray, List.map_cons, List.map_nil]); first | done | rfl) ?_
        have hbw := below_step HBD.out hb
        refine (spec_JoinCases.calls k _ _ l0_0 _ _ l0_1 _ _ l0_2 _ _ l0_3 _ _ l1_0 _ _ l1_1 _ _ l1_2 _ _ l1_3 R0 R1 R2 R3 b W (Kd.R_reads' fx0).2.2 (Kd.R_reads' fx0).2.1 (Kd.R_reads' fx1).2.2 (Kd.R_reads' fx1).2.1 (Kd.R_reads' fx2).2.2 (Kd.R_reads' fx2).2.1 (Kd.R_reads' fx3).2.2 (Kd.R_reads' fx3).2.1 (Kd.R_reads' fy0).2.2 (Kd.R_reads' fy0).2.1 (Kd.R_reads' fy1).2.2 (Kd.R_reads' fy1).2.1 (Kd.R_reads' fy2).2.2 (Kd.R_reads' fy2).2.1 (Kd.R_reads' fy3).2.2 (Kd.R_reads' fy3).2.1 F_spec.out).mono ?_
        rintro e W2 ⟨z0, z1, z2, z3, rfl, ho0, ho1, ho2, ho3, hbl⟩
        refine ⟨_, rfl, ?_⟩
        have hbn := below_step hb hbl
        refine hK.out _ _ (SXX.out _ hbn) (fun hHeld => ?_)
        clear hK K
        refine norm_ (a' := ?_) ?_ ?_
        rotate_left
        · show Act.put _ (some 32) _ = _
          simp only [Act.put, List.setIfInBounds_toArray, List.set_cons_zero, List.set_cons_succ, i64_w, i32_w]
          rfl
        refine pure_ (i := 5) (N := some 27) (v := ?_) (a' := ?_) #[true, true, true, true, true, true, false, false, false, false, false] rfl rfl (any_of HT_.out (by kernel_rfl)) (fun _ _ _ h => h) (Or.inl ⟨by rfl, ?_⟩) ?_ ?_
        rotate_left
        · intro w'
          go_simp
          (try with_reducible rfl)
        rotate_left
        · simp only [Act.put, List.setIfInBounds_toArray, List.set_cons_zero, List.set_cons_succ, i64_w, i32_w]
          rfl
        refine pure_ (i := 6) (N := some 33) (v := ?_) (a' := ?_) #[true, true, true, true, true, true, true, false, false, false, false] rfl rfl (any_of HT_.out (by kernel_rfl)) (fun _ _ _ h => h) (Or.inl ⟨by rfl, ?_⟩) ?_ ?_
        rotate_left
        · intro w'
          go_simp
          (try with_reducible rfl)
        rotate_left
        · simp only [Act.put, List.setIfInBounds_toArray, List.set_cons_zero, List.set_cons_succ, i64_w, i32_w]
          rfl
        refine pure_ (i := 7) (N := some 34) (v := ?_) (a' := ?_) #[true, true, true, true, true, true, true, true, false, false, false] rfl rfl (any_of HT_.out (by kernel_rfl)) (fun _ _ _ h => h) (Or.inl ⟨by rfl, ?_⟩) ?_ ?_
        rotate_left
        · intro w'
          go_simp
          (try with_reducible rfl)
        rotate_left
        · simp only [Act.put, List.setIfInBounds_toArray, List.set_cons_zero, List.set_cons_succ, i64_w, i32_w]
          rfl
        have hc := S3_0.out (.slice Ax0 l0_0.length cx0, .slice Ax1 l0_1.length cx1, .slice Ax2 l0_2.length cx2, .slice Ax3 l0_3.length cx3, .slice Ay0 l1_0.length cy0, .slice Ay1 l1_1.length cy1, .slice Ay2 l1_2.length cy2, .slice Ay3 l1_3.length cy3, z0, z1, z2, z3) _ ⟨hbn, Kd.R_lower ho0 hb.size, Kd.R_lower ho1 hb.size, Kd.R_lower ho2 hb.size, Kd.R_lower ho3 hb.size⟩
        simp only [putAll, Act.put, List.setIfInBounds_toArray, List.set_cons_zero, List.set_cons_succ] at hc
        exact hc
      · refine value_ (w1 := ?_) (v := ?_) (by rfl) rfl ?_ ?_
        rotate_left 2
        · go_simp
          constructor
          · rfl
          · rfl
        have hbl := below_alloc (Below.refl W.heap.size W) (Obj.cells #[.slice none 0 0, .slice none 0 0, .slice none 0 0, .slice none 0 0] 26)
        have hbn := below_step hb hbl
        refine hK.out _ _ (SXX.out _ hbn) (fun hHeld => ?_)
        clear hK K
        refine norm_ (a' := ?_) ?_ ?_
        rotate_left
        · show Act.put _ (some 6) _ = _
          simp only [Act.put, List.setIfInBounds_toArray, List.set_cons_zero, List.set_cons_succ, i64_w, i32_w]
          rfl
        have hc := S2_1.out (x0, x1, x2, x3, y0, y1, y2, y3, W.heap.size) _ ⟨hbn, Kd.R_below fx0 hbl, Kd.R_below fx1 hbl, Kd.R_below fx2 hbl, Kd.R_below fx3 hbl, Kd.R_below fy0 hbl, Kd.R_below fy1 hbl, Kd.R_below fy2 hbl, Kd.R_below fy3 hbl, Go.heap_alloc_new W _, hb.size⟩
        simp only [putAll, Act.put, List.setIfInBounds_toArray, List.set_cons_zero, List.set_cons_succ] at hc
        exact hc
    intro H_
    have S2_0 := Aside0.mk H_
    clear H_
    refine join_ 8 #[true, false, true, false, false, false, false, false, true, false, false] (fun s : Nat => [(6, .pointer (some ⟨s, 0, none⟩))]) (fun s W_ => Below w4.drew.heap.size w4.drew W_ ∧ W_.heap[s]? = some (.cells #[.slice none 0 0, .slice none 0 0, .slice none 0 0, .slice none 0 0] 26 (0, 0)) ∧ w4.heap.size ≤ s) ?_ ?_
    · rintro g_ W ⟨hb, fg, fle⟩
      refine norm_ (a' := ?_) ?_ ?_
      rotate_left
      · show putAll _ _ = _
        simp only [putAll, Act.put, List.setIfInBounds_toArray, List.set_cons_zero, List.set_cons_succ, i64_w, i32_w]
        rfl
      refine one_ (i := 1) (N := some 29) #[true, true, true, false, false, false, false, false, true, false, false] rfl rfl (one_of HT_.out (by kernel_rfl)) (by decide) (fun K hK => ?_)
      · refine goes_ Try.func7 (by kernel_rfl) rfl #[.agg #[.slice A0_0 l0_0.length c0_0, .slice A0_1 l0_1.length c0_1, .slice A0_2 l0_2.length c0_2, .slice A0_3 l0_3.length c0_3]] (by rfl) rfl rfl (by (try simp only [List.map_toArray, List.map_cons, List.map_nil]); first | done | rfl) ?_
        have hbw := below_step HBD.out hb
        refine (laws_toCase.calls k _ _ l0_0 _ _ l0_1 _ _ l0_2 _ _ l0_3 l0_0 l0_1 l0_2 l0_3 W (Kd.C_below HR0_0.out hbw) HC0_0.out (Kd.C_below HR0_1.out hbw) HC0_1.out (Kd.C_below HR0_2.out hbw) HC0_2.out (Kd.C_below HR0_3.out hbw) HC0_3.out F_toaA.out).mono ?_
        rintro e W2 ⟨x0, x1, x2, x3, rfl, ho0, ho1, ho2, ho3, hbl⟩
        refine ⟨_, rfl, ?_⟩
        have hbn := below_step hb hbl
        refine hK.out _ _ (SXX.out _ hbn) (fun hHeld => ?_)
        clear hK K
        refine norm_ (a' := ?_) ?_ ?_
        rotate_left
        · show Act.put _ (some 29) _ = _
          simp only [Act.put, List.setIfInBounds_toArray, List.set_cons_zero, List.set_cons_succ, i64_w, i32_w]
          rfl
        have hc := S1_1.out (x0, x1, x2, x3, g_) _ ⟨hbn, Kd.R_lower (Kd.R_mono ho0 (fun _ _ => trivial)) hbw.size, Kd.R_lower (Kd.R_mono ho1 (fun _ _ => trivial)) hbw.size, Kd.R_lower (Kd.R_mono ho2 (fun _ _ => trivial)) hbw.size, Kd.R_lower (Kd.R_mono ho3 (fun _ _ => trivial)) hbw.size, (hbl.block g_ (blk_lt fg)).trans fg, fle⟩
        simp only [putAll, Act.put, List.setIfInBounds_toArray, List.set_cons_zero, List.set_cons_succ] at hc
        exact hc
    intro H_
    have S0_1 := Aside0.mk H_
    clear H_
    refine join_ 8 #[true, true, true, false, false, false, false, false, false, false, false] (fun s : Value × Value × Value × Value => [(29, .agg #[s.1, s.2.1, s.2.2.1, s.2.2.2])]) (fun s W_ => Below w4.drew.heap.size w4.drew W_ ∧ Kd.R (Kd.int .i64) 3 W_ w.heap.size (fun _ => True) s.1 l0_0 ∧ Kd.R (Kd.int .i64) 3 W_ w.heap.size (fun _ => True) s.2.1 l0_1 ∧ Kd.R (Kd.int .i64) 3 W_ w.heap.size (fun _ => True) s.2.2.1 l0_2 ∧ Kd.R (Kd.int .i64) 3 W_ w.heap.size (fun _ => True) s.2.2.2 l0_3) ?_ ?_
    · rintro ⟨x0, x1, x2, x3⟩ W ⟨hb, fx0, fx1, fx2, fx3⟩
      refine norm_ (a' := ?_) ?_ ?_
      rotate_left
      · show putAll _ _ = _
        simp only [putAll, Act.put, List.setIfInBounds_toArray, List.set_cons_zero, List.set_cons_succ, i64_w, i32_w]
        rfl
      refine two_ (i := 3) (j := 8) (Ni := some 31) (Nj := some 6) #[true, true, true, true, false, false, false, false, false, false, false] #[true, true, true, false, false, false, false, false, true, false, false] rfl rfl rfl rfl (two_of HT_.out (by kernel_rfl)) (by decide) (by decide) (fun K hK => ?_) (fun K hK => ?_)
      · refine goes_ Try.func7 (by kernel_rfl) rfl #[.agg #[.slice A1_0 l1_0.length c1_0, .slice A1_1 l1_1.length c1_1, .slice A1_2 l1_2.length c1_2, .slice A1_3 l1_3.length c1_3]] (by rfl) rfl rfl (by (try simp only [List.map_toArray, List.map_cons, List.map_nil]); first | done | rfl) ?_
        have hbw := below_step HBD.out hb
        refine (laws_toCase.calls k _ _ l1_0 _ _ l1_1 _ _ l1_2 _ _ l1_3 l1_0 l1_1 l1_2 l1_3 W (Kd.C_below HR1_0.out hbw) HC1_0.out (Kd.C_below HR1_1.out hbw) HC1_1.out (Kd.C_below HR1_2.out hbw) HC1_2.out (Kd.C_below HR1_3.out hbw) HC1_3.out F_toaB.out).mono ?_
        rintro e W2 ⟨y0, y1, y2, y3, rfl, ho0, ho1, ho2, ho3, hbl⟩
        refine ⟨_, rfl, ?_⟩
        have hbn := below_step hb hbl
        refine hK.out _ _ (SXX.out _ hbn) (fun hHeld => ?_)
        clear hK K
        refine norm_ (a' := ?_) ?_ ?_
        rotate_left
        · show Act.put _ (some 31) _ = _
          simp only [Act.put, List.setIfInBounds_toArray, List.set_cons_zero, List.set_cons_succ, i64_w, i32_w]
          rfl
        have hc := S2_0.out (x0, x1, x2, x3, y0, y1, y2, y3) _ ⟨hbn, Kd.R_below fx0 hbl, Kd.R_below fx1 hbl, Kd.R_below fx2 hbl, Kd.R_below fx3 hbl, Kd.R_lower (Kd.R_mono ho0 (fun _ _ => trivial)) hbw.size, Kd.R_lower (Kd.R_mono ho1 (fun _ _ => trivial)) hbw.size, Kd.R_lower (Kd.R_mono ho2 (fun _ _ => trivial)) hbw.size, Kd.R_lower (Kd.R_mono ho3 (fun _ _ => trivial)) hbw.size⟩
        simp only [putAll, Act.put, List.setIfInBounds_toArray, List.set_cons_zero, List.set_cons_succ] at hc
        exact hc
      · refine value_ (w1 := ?_) (v := ?_) (by rfl) rfl ?_ ?_
        rotate_left 2
        · go_simp
          constructor
          · rfl
          · rfl
        have hbl := below_alloc (Below.refl W.heap.size W) (Obj.cells #[.slice none 0 0, .slice none 0 0, .slice none 0 0, .slice none 0 0] 26)
        have hbn := below_step hb hbl
        refine hK.out _ _ (SXX.out _ hbn) (fun hHeld => ?_)
        clear hK K
        refine norm_ (a' := ?_) ?_ ?_
        rotate_left
        · show Act.put _ (some 6) _ = _
          simp only [Act.put, List.setIfInBounds_toArray, List.set_cons_zero, List.set_cons_succ, i64_w, i32_w]
          rfl
        have hc := S1_1.out (x0, x1, x2, x3, W.heap.size) _ ⟨hbn, Kd.R_below fx0 hbl, Kd.R_below fx1 hbl, Kd.R_below fx2 hbl, Kd.R_below fx3 hbl, Go.heap_alloc_new W _, hb.size⟩
        simp only [putAll, Act.put, List.setIfInBounds_toArray, List.set_cons_zero, List.set_cons_succ] at hc
        exact hc
    intro H_
    have S1_0 := Aside0.mk H_
    clear H_
    have fle0 : w4.heap.size ≤ w4.drew.heap.size := Nat.le_refl _
    have hb := Below.refl w4.drew.heap.size w4.drew
    generalize hWW : w4.drew = W at hb fle0 ⊢
    rw [hWW] at SXX HBD S3_1 S2_1 S3_0 S1_1 S2_0 S0_1 S1_0
    clear hWW hHeld
    refine two_ (i := 1) (j := 8) (Ni := some 29) (Nj := some 6) #[true, true, true, false, false, false, false, false, false, false, false] #[true, false, true, false, false, false, false, false, true, false, false] rfl rfl rfl rfl (two_of HT_.out (by kernel_rfl)) (by decide) (by decide) (fun K hK => ?_) (fun K hK => ?_)
    · refine goes_ Try.func7 (by kernel_rfl) rfl #[.agg #[.slice A0_0 l0_0.length c0_0, .slice A0_1 l0_1.length c0_1, .slice A0_2 l0_2.length c0_2, .slice A0_3 l0_3.length c0_3]] (by rfl) rfl rfl (by (try simp only [List.map_toArray, List.map_cons, List.map_nil]); first | done | rfl) ?_
      have hbw := below_step HBD.out hb
      refine (laws_toCase.calls k _ _ l0_0 _ _ l0_1 _ _ l0_2 _ _ l0_3 l0_0 l0_1 l0_2 l0_3 W (Kd.C_below HR0_0.out hbw) HC0_0.out (Kd.C_below HR0_1.out hbw) HC0_1.out (Kd.C_below HR0_2.out hbw) HC0_2.out (Kd.C_below HR0_3.out hbw) HC0_3.out F_toaA.out).mono ?_
      rintro e W2 ⟨x0, x1, x2, x3, rfl, ho0, ho1, ho2, ho3, hbl⟩
      refine ⟨_, rfl, ?_⟩
      have hbn := below_step hb hbl
      refine hK.out _ _ (SXX.out _ hbn) (fun hHeld => ?_)
      clear hK K
      refine norm_ (a' := ?_) ?_ ?_
      rotate_left
      · show Act.put _ (some 29) _ = _
        simp only [Act.put, List.setIfInBounds_toArray, List.set_cons_zero, List.set_cons_succ, i64_w, i32_w]
        rfl
      have hc := S1_0.out (x0, x1, x2, x3) _ ⟨hbn, Kd.R_lower (Kd.R_mono ho0 (fun _ _ => trivial)) hbw.size, Kd.R_lower (Kd.R_mono ho1 (fun _ _ => trivial)) hbw.size, Kd.R_lower (Kd.R_mono ho2 (fun _ _ => trivial)) hbw.size, Kd.R_lower (Kd.R_mono ho3 (fun _ _ => trivial)) hbw.size⟩
      simp only [putAll, Act.put, List.setIfInBounds_toArray, List.set_cons_zero, List.set_cons_succ] at hc
      exact hc
    · refine value_ (w1 := ?_) (v := ?_) (by rfl) rfl ?_ ?_
      rotate_left 2
      · go_simp
        constructor
        · rfl
        · rfl
      have hbl := below_alloc (Below.refl W.heap.size W) (Obj.cells #[.slice none 0 0, .slice none 0 0, .slice none 0 0, .slice none 0 0] 26)
      have hbn := below_step hb hbl
      refine hK.out _ _ (SXX.out _ hbn) (fun hHeld => ?_)
      clear hK K
      refine norm_ (a' := ?_) ?_ ?_
      rotate_left
      · show Act.put _ (some 6) _ = _
        simp only [Act.put, List.setIfInBounds_toArray, List.set_cons_zero, List.set_cons_succ, i64_w, i32_w]
        rfl
      have hc := S0_1.out (W.heap.size) _ ⟨hbn, Go.heap_alloc_new W _, fle0⟩
      simp only [putAll, Act.put, List.setIfInBounds_toArray, List.set_cons_zero, List.set_cons_succ] at hc
      exact hc
  rintro ⟨_, _, _, _, _, _, _, _, v5_0, v5_1, v5_2, v5_3, g5⟩ W ⟨hb, hm0, hm1, hm2, hm3, fg, fle, fne0, fne1, fne2, fne3⟩
  clear SXX
  have P5_0_1 := Aside0.mk (show ∀ k_, some k_ = (v5_0 : Value).ownBlock → ¬ some k_ = (v5_1 : Value).ownBlock from fun k_ h1 h2 => (hm0.1 k_ h1.symm).1 h2)
  have P5_0_2 := Aside0.mk (show ∀ k_, some k_ = (v5_0 : Value).ownBlock → ¬ some k_ = (v5_2 : Value).ownBlock from fun k_ h1 h2 => (hm0.1 k_ h1.symm).2.1 h2)
  have P5_0_3 := Aside0.mk (show ∀ k_, some k_ = (v5_0 : Value).ownBlock → ¬ some k_ = (v5_3 : Value).ownBlock from fun k_ h1 h2 => (hm0.1 k_ h1.symm).2.2 h2)
  have P5_1_0 := Aside0.mk (show ∀ k_, some k_ = (v5_1 : Value).ownBlock → ¬ some k_ = (v5_0 : Value).ownBlock from fun k_ h1 h2 => (hm1.1 k_ h1.symm).1 h2)
  have P5_1_2 := Aside0.mk (show ∀ k_, some k_ = (v5_1 : Value).ownBlock → ¬ some k_ = (v5_2 : Value).ownBlock from fun k_ h1 h2 => (hm1.1 k_ h1.symm).2.1 h2)
  have P5_1_3 := Aside0.mk (show ∀ k_, some k_ = (v5_1 : Value).ownBlock → ¬ some k_ = (v5_3 : Value).ownBlock from fun k_ h1 h2 => (hm1.1 k_ h1.symm).2.2 h2)
  have P5_2_0 := Aside0.mk (show ∀ k_, some k_ = (v5_2 : Value).ownBlock → ¬ some k_ = (v5_0 : Value).ownBlock from fun k_ h1 h2 => (hm2.1 k_ h1.symm).1 h2)
  have P5_2_1 := Aside0.mk (show ∀ k_, some k_ = (v5_2 : Value).ownBlock → ¬ some k_ = (v5_1 : Value).ownBlock from fun k_ h1 h2 => (hm2.1 k_ h1.symm).2.1 h2)
  have P5_2_3 := Aside0.mk (show ∀ k_, some k_ = (v5_2 : Value).ownBlock → ¬ some k_ = (v5_3 : Value).ownBlock from fun k_ h1 h2 => (hm2.1 k_ h1.symm).2.2 h2)
  have P5_3_0 := Aside0.mk (show ∀ k_, some k_ = (v5_3 : Value).ownBlock → ¬ some k_ = (v5_0 : Value).ownBlock from fun k_ h1 h2 => (hm3.1 k_ h1.symm).1 h2)
  have P5_3_1 := Aside0.mk (show ∀ k_, some k_ = (v5_3 : Value).ownBlock → ¬ some k_ = (v5_1 : Value).ownBlock from fun k_ h1 h2 => (hm3.1 k_ h1.symm).2.1 h2)
  have P5_3_2 := Aside0.mk (show ∀ k_, some k_ = (v5_3 : Value).ownBlock → ¬ some k_ = (v5_2 : Value).ownBlock from fun k_ h1 h2 => (hm3.1 k_ h1.symm).2.2 h2)
  obtain ⟨A5_0, c5_0, e5_0⟩ := Kd.R_slice hm0
  subst e5_0
  obtain ⟨A5_1, c5_1, e5_1⟩ := Kd.R_slice hm1
  subst e5_1
  obtain ⟨A5_2, c5_2, e5_2⟩ := Kd.R_slice hm2
  subst e5_2
  obtain ⟨A5_3, c5_3, e5_3⟩ := Kd.R_slice hm3
  subst e5_3
  refine norm_ (a' := ?_) ?_ ?_
  rotate_left
  · show putAll _ _ = _
    simp only [putAll, Act.put, List.setIfInBounds_toArray, List.set_cons_zero, List.set_cons_succ, i64_w, i32_w]
    rfl
  have hz_0 := (blk_cell fg 0).trans (show _ = some (.slice none 0 0 : Value) from rfl)
  have hf_0 := blk_frozen fg 0
  have hz_1 := (blk_cell fg 1).trans (show _ = some (.slice none 0 0 : Value) from rfl)
  have hf_1 := blk_frozen fg 1
  have hz_2 := (blk_cell fg 2).trans (show _ = some (.slice none 0 0 : Value) from rfl)
  have hf_2 := blk_frozen fg 2
  have hz_3 := (blk_cell fg 3).trans (show _ = some (.slice none 0 0 : Value) from rfl)
  have hf_3 := blk_frozen fg 3
  refine last_ (i := 9) (N := none) #[true, true, true, true, true, true, true, true, true, true, false] rfl rfl (one_of HT_.out (by kernel_rfl)) (by decide) (fun K hK => ?_)
  refine skip_ (w1 := ?_) (by rfl) rfl ?_ ?_
  rotate_left
  · go_simp
    rfl
  refine hK.out _ _ ?_
  clear hK K
  refine pure_ (i := 10) (N := some 7) (v := ?_) (a' := ?_) #[true, true, true, true, true, true, true, true, true, true, true] rfl rfl (any_of HT_.out (by kernel_rfl)) (fun _ _ _ h => h) (Or.inl ⟨by rfl, ?_⟩) ?_ ?_
  rotate_left
  · intro w'
    go_simp
    (try with_reducible rfl)
  rotate_left
  · simp only [Act.put, List.setIfInBounds_toArray, List.set_cons_zero, List.set_cons_succ, i64_w, i32_w]
    rfl
  refine done_ (done_of HT_.out (by kernel_rfl)) ?_
  generalize hw5 : (World.setCell (World.setCell (World.setCell (World.setCell W ⟨g5, 0, none⟩ (.slice A5_0 R0.length c5_0)) ⟨g5, 1, none⟩ (.slice A5_1 R1.length c5_1)) ⟨g5, 2, none⟩ (.slice A5_2 R2.length c5_2)) ⟨g5, 3, none⟩ (.slice A5_3 R3.length c5_3)) = w5
  have S5 := stored4 fg (below_step (below_drew1 HB.out) hb) (Nat.le_trans HB4.out fle) (.slice A5_0 R0.length c5_0) (.slice A5_1 R1.length c5_1) (.slice A5_2 R2.length c5_2) (.slice A5_3 R3.length c5_3)
  have SL5 := stored4 (w := w4) fg (below_step (below_drew1 (Below.refl w4.heap.size w4)) hb) fle (.slice A5_0 R0.length c5_0) (.slice A5_1 R1.length c5_1) (.slice A5_2 R2.length c5_2) (.slice A5_3 R3.length c5_3)
  rw [hw5] at S5 SL5
  have M5_0 := Aside0.mk (Kd.R_step (Kd.R_tight rfl hm0) (fun k_ hk hlt => S5.2.1.2 k_ hlt (Nat.lt_or_gt_of_ne (fun e_ => fne0 (e_ ▸ hk)))))
  have M5_1 := Aside0.mk (Kd.R_step (Kd.R_tight rfl hm1) (fun k_ hk hlt => S5.2.1.2 k_ hlt (Nat.lt_or_gt_of_ne (fun e_ => fne1 (e_ ▸ hk)))))
  have M5_2 := Aside0.mk (Kd.R_step (Kd.R_tight rfl hm2) (fun k_ hk hlt => S5.2.1.2 k_ hlt (Nat.lt_or_gt_of_ne (fun e_ => fne2 (e_ ▸ hk)))))
  have M5_3 := Aside0.mk (Kd.R_step (Kd.R_tight rfl hm3) (fun k_ hk hlt => S5.2.1.2 k_ hlt (Nat.lt_or_gt_of_ne (fun e_ => fne3 (e_ ▸ hk)))))
  have BK_w0 := Aside0.mk S5.1
  have NB_w0 := Aside0.mk (show w4.heap.size ≤ g5 ∧ g5 < w5.heap.size from ⟨fle, blk_lt S5.1⟩)
  have D5 := Aside0.mk SL5.2.2
  clear hz_0 hz_1 hz_2 hz_3 hf_0 hf_1 hf_2 hf_3 S5 SL5 hw5 fg fle fne0 fne1 fne2 fne3 hm0 hm1 hm2 hm3 hb HBD
  have F5 := Aside0.mk (Fr.of_below D5.out)
  have HBn := Aside0.mk (below_step HB.out D5.out)
  clear HB
  have HB := HBn
  clear HBn
  have G5 := Aside0.mk F5.out.1
  have HB5 := Aside0.mk HB.out.size
  obtain ⟨a5_0, b5_0, N5_0, H5_0⟩ := Hd.new M5_0.out (B := w.heap.size) HB4.out G5.out
  have N5_0 := Aside0.mk N5_0
  have H5_0 := Aside0.mk H5_0
  obtain ⟨a5_1, b5_1, N5_1, H5_1⟩ := Hd.new M5_1.out (B := w.heap.size) HB4.out G5.out
  have N5_1 := Aside0.mk N5_1
  have H5_1 := Aside0.mk H5_1
  obtain ⟨a5_2, b5_2, N5_2, H5_2⟩ := Hd.new M5_2.out (B := w.heap.size) HB4.out G5.out
  have N5_2 := Aside0.mk N5_2
  have H5_2 := Aside0.mk H5_2
  obtain ⟨a5_3, b5_3, N5_3, H5_3⟩ := Hd.new M5_3.out (B := w.heap.size) HB4.out G5.out
  have N5_3 := Aside0.mk N5_3
  have H5_3 := Aside0.mk H5_3
  clear M5_0 M5_1 M5_2 M5_3 D5
  have BK_paAn := Aside0.mk (Fr.blk (BK_paA.out) F5.out (.inr (Nat.zero_le _)))
  clear BK_paA
  have BK_paA := BK_paAn
  clear BK_paAn
  have hc_paA_0 : w5.cell? ⟨g2, 0, none⟩ = some (.slice A0_0 l0_0.length c0_0) := (blk_cell BK_paA.out 0).trans rfl
  have hc_paA_1 : w5.cell? ⟨g2, 1, none⟩ = some (.slice A0_1 l0_1.length c0_1) := (blk_cell BK_paA.out 1).trans rfl
  have hc_paA_2 : w5.cell? ⟨g2, 2, none⟩ = some (.slice A0_2 l0_2.length c0_2) := (blk_cell BK_paA.out 2).trans rfl
  have hc_paA_3 : w5.cell? ⟨g2, 3, none⟩ = some (.slice A0_3 l0_3.length c0_3) := (blk_cell BK_paA.out 3).trans rfl
  go_wp2_with (first | (go_at_call 7; (with_reducible refine (laws_toCase.calls k _ _ l0_0 _ _ l0_1 _ _ l0_2 _ _ l0_3 l0_0 l0_1 l0_2 l0_3 (w5) (Kd.C_below HR0_0.out HB.out) HC0_0.out (Kd.C_below HR0_1.out HB.out) HC0_1.out (Kd.C_below HR0_2.out HB.out) HC0_2.out (Kd.C_below HR0_3.out HB.out) HC0_3.out (F_toaA.out)).mono ?_); rintro e w6 ⟨v6_0, v6_1, v6_2, v6_3, rfl, hn0, hn1, hn2, hn3, hb⟩; have D6 := Aside0.mk hb; clear hb; have M6_0 := Aside0.mk hn0; clear hn0; have M6_1 := Aside0.mk hn1; clear hn1; have M6_2 := Aside0.mk hn2; clear hn2; have M6_3 := Aside0.mk hn3; clear hn3; have F6 := Aside0.mk (Fr.of_below D6.out); have HBn := Aside0.mk (below_step HB.out D6.out); clear HB; have HB := HBn; clear HBn; have G6 := Aside0.mk F6.out.1; have HB6 := Aside0.mk HB.out.size; obtain ⟨a6_0, b6_0, N6_0, H6_0⟩ := Hd.new M6_0.out (B := w.heap.size) HB5.out G6.out; have N6_0 := Aside0.mk N6_0; have H6_0 := Aside0.mk H6_0; obtain ⟨a6_1, b6_1, N6_1, H6_1⟩ := Hd.new M6_1.out (B := w.heap.size) HB5.out G6.out; have N6_1 := Aside0.mk N6_1; have H6_1 := Aside0.mk H6_1; obtain ⟨a6_2, b6_2, N6_2, H6_2⟩ := Hd.new M6_2.out (B := w.heap.size) HB5.out G6.out; have N6_2 := Aside0.mk N6_2; have H6_2 := Aside0.mk H6_2; obtain ⟨a6_3, b6_3, N6_3, H6_3⟩ := Hd.new M6_3.out (B := w.heap.size) HB5.out G6.out; have N6_3 := Aside0.mk N6_3; have H6_3 := Aside0.mk H6_3; have P6_0_1 := Aside0.mk (show ∀ k_, some k_ = (v6_0 : Value).ownBlock → ¬ some k_ = (v6_1 : Value).ownBlock from fun k_ h1 h2 => (M6_0.out.1 k_ h1.symm).1 h2); have P6_0_2 := Aside0.mk (show ∀ k_, some k_ = (v6_0 : Value).ownBlock → ¬ some k_ = (v6_2 : Value).ownBlock from fun k_ h1 h2 => (M6_0.out.1 k_ h1.symm).2.1 h2); have P6_0_3 := Aside0.mk (show ∀ k_, some k_ = (v6_0 : Value).ownBlock → ¬ some k_ = (v6_3 : Value).ownBlock from fun k_ h1 h2 => (M6_0.out.1 k_ h1.symm).2.2 h2); have P6_1_0 := Aside0.mk (show ∀ k_, some k_ = (v6_1 : Value).ownBlock → ¬ some k_ = (v6_0 : Value).ownBlock from fun k_ h1 h2 => (M6_1.out.1 k_ h1.symm).1 h2); have P6_1_2 := Aside0.mk (show ∀ k_, some k_ = (v6_1 : Value).ownBlock → ¬ some k_ = (v6_2 : Value).ownBlock from fun k_ h1 h2 => (M6_1.out.1 k_ h1.symm).2.1 h2); have P6_1_3 := Aside0.mk (show ∀ k_, some k_ = (v6_1 : Value).ownBlock → ¬ some k_ = (v6_3 : Value).ownBlock from fun k_ h1 h2 => (M6_1.out.1 k_ h1.symm).2.2 h2); have P6_2_0 := Aside0.mk (show ∀ k_, some k_ = (v6_2 : Value).ownBlock → ¬ some k_ = (v6_0 : Value).ownBlock from fun k_ h1 h2 => (M6_2.out.1 k_ h1.symm).1 h2); have P6_2_1 := Aside0.mk (show ∀ k_, some k_ = (v6_2 : Value).ownBlock → ¬ some k_ = (v6_1 : Value).ownBlock from fun k_ h1 h2 => (M6_2.out.1 k_ h1.symm).2.1 h2); have P6_2_3 := Aside0.mk (show ∀ k_, some k_ = (v6_2 : Value).ownBlock → ¬ some k_ = (v6_3 : Value).ownBlock from fun k_ h1 h2 => (M6_2.out.1 k_ h1.symm).2.2 h2); have P6_3_0 := Aside0.mk (show ∀ k_, some k_ = (v6_3 : Value).ownBlock → ¬ some k_ = (v6_0 : Value).ownBlock from fun k_ h1 h2 => (M6_3.out.1 k_ h1.symm).1 h2); have P6_3_1 := Aside0.mk (show ∀ k_, some k_ = (v6_3 : Value).ownBlock → ¬ some k_ = (v6_1 : Value).ownBlock from fun k_ h1 h2 => (M6_3.out.1 k_ h1.symm).2.1 h2); have P6_3_2 := Aside0.mk (show ∀ k_, some k_ = (v6_3 : Value).ownBlock → ¬ some k_ = (v6_2 : Value).ownBlock from fun k_ h1 h2 => (M6_3.out.1 k_ h1.symm).2.2 h2); clear M6_0 M6_1 M6_2 M6_3; obtain ⟨A6_0, c6_0, e6_0⟩ := Hd.form H6_0.out; subst e6_0; obtain ⟨A6_1, c6_1, e6_1⟩ := Hd.form H6_1.out; subst e6_1; obtain ⟨A6_2, c6_2, e6_2⟩ := Hd.form H6_2.out; subst e6_2; obtain ⟨A6_3, c6_3, e6_3⟩ := Hd.form H6_3.out; subst e6_3) | ((with_reducible refine gate_dst (N := 8) rfl ?_); refine box_event ?hg (N := 8) ?hd (cs := #[.slice none 0 0, .slice none 0 0, .slice none 0 0, .slice none 0 0]) (t := 26) ?hr ?_; (case hd => rfl); (case hg => rfl); (case hr => first | (go_simp; done) | (go_simp; rfl)); intro g8 hg w7 hbox hb; have BK_x_aA := Aside0.mk hbox; have NB_x_aA := Aside0.mk (show w6.heap.size ≤ g8 ∧ g8 < w7.heap.size from ⟨Nat.le_of_eq hg.symm, blk_lt hbox⟩); have D7 := Aside0.mk hb; clear hbox hg hb; have F7 := Aside0.mk (Fr.of_below D7.out); have HBn := Aside0.mk (below_step HB.out D7.out); clear HB; have HB := HBn; clear HBn; have G7 := Aside0.mk F7.out.1; have HB7 := Aside0.mk HB.out.size; clear D7; have BK_paBn := Aside0.mk (Fr.blk (Fr.blk (Fr.blk (BK_paB.out) F5.out (.inr (Nat.zero_le _))) F6.out (.inr (Nat.zero_le _))) F7.out (.inr (Nat.zero_le _))); clear BK_paB; have BK_paB := BK_paBn; clear BK_paBn; have hc_paB_0 : w7.cell? ⟨g3, 0, none⟩ = some (.slice A1_0 l1_0.length c1_0) := (blk_cell BK_paB.out 0).trans rfl; have hc_paB_1 : w7.cell? ⟨g3, 1, none⟩ = some (.slice A1_1 l1_1.length c1_1) := (blk_cell BK_paB.out 1).trans rfl; have hc_paB_2 : w7.cell? ⟨g3, 2, none⟩ = some (.slice A1_2 l1_2.length c1_2) := (blk_cell BK_paB.out 2).trans rfl; have hc_paB_3 : w7.cell? ⟨g3, 3, none⟩ = some (.slice A1_3 l1_3.length c1_3) := (blk_cell BK_paB.out 3).trans rfl; have hz_0 := (blk_cell BK_x_aA.out 0).trans (show _ = some (.slice none 0 0 : Value) from rfl); have hf_0 := blk_frozen BK_x_aA.out 0; have hz_1 := (blk_cell BK_x_aA.out 1).trans (show _ = some (.slice none 0 0 : Value) from rfl); have hf_1 := blk_frozen BK_x_aA.out 1; have hz_2 := (blk_cell BK_x_aA.out 2).trans (show _ = some (.slice none 0 0 : Value) from rfl); have hf_2 := blk_frozen BK_x_aA.out 2; have hz_3 := (blk_cell BK_x_aA.out 3).trans (show _ = some (.slice none 0 0 : Value) from rfl); have hf_3 := blk_frozen BK_x_aA.out 3; have ne_paB : g3 ≠ g8 := by have := NB_paB.out; have := NB_x_aA.out; have := G3.out; have := G4.out; have := G5.out; have := G6.out; omega))
  generalize hw8 : (World.setCell (World.setCell (World.setCell (World.setCell w7 ⟨g8, 0, none⟩ (.slice A6_0 l0_0.length c6_0)) ⟨g8, 1, none⟩ (.slice A6_1 l0_1.length c6_1)) ⟨g8, 2, none⟩ (.slice A6_2 l0_2.length c6_2)) ⟨g8, 3, none⟩ (.slice A6_3 l0_3.length c6_3)) = w8
  have S8 := stored4 BK_x_aA.out HB.out (by have := NB_x_aA.out; have := HB6.out; omega) (.slice A6_0 l0_0.length c6_0) (.slice A6_1 l0_1.length c6_1) (.slice A6_2 l0_2.length c6_2) (.slice A6_3 l0_3.length c6_3)
  rw [hw8] at S8
  clear hw8 hz_0 hz_1 hz_2 hz_3 hf_0 hf_1 hf_2 hf_3 ne_paB
  clear hc_paA_0 hc_paA_1 hc_paA_2 hc_paA_3 hc_paB_0 hc_paB_1 hc_paB_2 hc_paB_3
  have BK_x_aAn := Aside0.mk S8.1
  clear BK_x_aA
  have BK_x_aA := BK_x_aAn
  clear BK_x_aAn
  have F8 := Aside0.mk (S8.2.1)
  have HBn := Aside0.mk (S8.2.2)
  clear HB
  have HB := HBn
  clear HBn
  have G8 := Aside0.mk F8.out.1
  have HB8 := Aside0.mk HB.out.size
  clear S8
  go_wp2_with (first | (go_at_call 7; (with_reducible refine (laws_toCase.calls k _ _ l1_0 _ _ l1_1 _ _ l1_2 _ _ l1_3 l1_0 l1_1 l1_2 l1_3 (w8) (Kd.C_below HR1_0.out HB.out) HC1_0.out (Kd.C_below HR1_1.out HB.out) HC1_1.out (Kd.C_below HR1_2.out HB.out) HC1_2.out (Kd.C_below HR1_3.out HB.out) HC1_3.out (F_toaB.out)).mono ?_); rintro e w9 ⟨v9_0, v9_1, v9_2, v9_3, rfl, hn0, hn1, hn2, hn3, hb⟩; have D9 := Aside0.mk hb; clear hb; have M9_0 := Aside0.mk hn0; clear hn0; have M9_1 := Aside0.mk hn1; clear hn1; have M9_2 := Aside0.mk hn2; clear hn2; have M9_3 := Aside0.mk hn3; clear hn3; have F9 := Aside0.mk (Fr.of_below D9.out); have HBn := Aside0.mk (below_step HB.out D9.out); clear HB; have HB := HBn; clear HBn; have G9 := Aside0.mk F9.out.1; have HB9 := Aside0.mk HB.out.size; obtain ⟨a9_0, b9_0, N9_0, H9_0⟩ := Hd.new M9_0.out (B := w.heap.size) HB8.out G9.out; have N9_0 := Aside0.mk N9_0; have H9_0 := Aside0.mk H9_0; obtain ⟨a9_1, b9_1, N9_1, H9_1⟩ := Hd.new M9_1.out (B := w.heap.size) HB8.out G9.out; have N9_1 := Aside0.mk N9_1; have H9_1 := Aside0.mk H9_1; obtain ⟨a9_2, b9_2, N9_2, H9_2⟩ := Hd.new M9_2.out (B := w.heap.size) HB8.out G9.out; have N9_2 := Aside0.mk N9_2; have H9_2 := Aside0.mk H9_2; obtain ⟨a9_3, b9_3, N9_3, H9_3⟩ := Hd.new M9_3.out (B := w.heap.size) HB8.out G9.out; have N9_3 := Aside0.mk N9_3; have H9_3 := Aside0.mk H9_3; have P9_0_1 := Aside0.mk (show ∀ k_, some k_ = (v9_0 : Value).ownBlock → ¬ some k_ = (v9_1 : Value).ownBlock from fun k_ h1 h2 => (M9_0.out.1 k_ h1.symm).1 h2); have P9_0_2 := Aside0.mk (show ∀ k_, some k_ = (v9_0 : Value).ownBlock → ¬ some k_ = (v9_2 : Value).ownBlock from fun k_ h1 h2 => (M9_0.out.1 k_ h1.symm).2.1 h2); have P9_0_3 := Aside0.mk (show ∀ k_, some k_ = (v9_0 : Value).ownBlock → ¬ some k_ = (v9_3 : Value).ownBlock from fun k_ h1 h2 => (M9_0.out.1 k_ h1.symm).2.2 h2); have P9_1_0 := Aside0.mk (show ∀ k_, some k_ = (v9_1 : Value).ownBlock → ¬ some k_ = (v9_0 : Value).ownBlock from fun k_ h1 h2 => (M9_1.out.1 k_ h1.symm).1 h2); have P9_1_2 := Aside0.mk (show ∀ k_, some k_ = (v9_1 : Value).ownBlock → ¬ some k_ = (v9_2 : Value).ownBlock from fun k_ h1 h2 => (M9_1.out.1 k_ h1.symm).2.1 h2); have P9_1_3 := Aside0.mk (show ∀ k_, some k_ = (v9_1 : Value).ownBlock → ¬ some k_ = (v9_3 : Value).ownBlock from fun k_ h1 h2 => (M9_1.out.1 k_ h1.symm).2.2 h2); have P9_2_0 := Aside0.mk (show ∀ k_, some k_ = (v9_2 : Value).ownBlock → ¬ some k_ = (v9_0 : Value).ownBlock from fun k_ h1 h2 => (M9_2.out.1 k_ h1.symm).1 h2); have P9_2_1 := Aside0.mk (show ∀ k_, some k_ = (v9_2 : Value).ownBlock → ¬ some k_ = (v9_1 : Value).ownBlock from fun k_ h1 h2 => (M9_2.out.1 k_ h1.symm).2.1 h2); have P9_2_3 := Aside0.mk (show ∀ k_, some k_ = (v9_2 : Value).ownBlock → ¬ some k_ = (v9_3 : Value).ownBlock from fun k_ h1 h2 => (M9_2.out.1 k_ h1.symm).2.2 h2); have P9_3_0 := Aside0.mk (show ∀ k_, some k_ = (v9_3 : Value).ownBlock → ¬ some k_ = (v9_0 : Value).ownBlock from fun k_ h1 h2 => (M9_3.out.1 k_ h1.symm).1 h2); have P9_3_1 := Aside0.mk (show ∀ k_, some k_ = (v9_3 : Value).ownBlock → ¬ some k_ = (v9_1 : Value).ownBlock from fun k_ h1 h2 => (M9_3.out.1 k_ h1.symm).2.1 h2); have P9_3_2 := Aside0.mk (show ∀ k_, some k_ = (v9_3 : Value).ownBlock → ¬ some k_ = (v9_2 : Value).ownBlock from fun k_ h1 h2 => (M9_3.out.1 k_ h1.symm).2.2 h2); clear M9_0 M9_1 M9_2 M9_3; obtain ⟨A9_0, c9_0, e9_0⟩ := Hd.form H9_0.out; subst e9_0; obtain ⟨A9_1, c9_1, e9_1⟩ := Hd.form H9_1.out; subst e9_1; obtain ⟨A9_2, c9_2, e9_2⟩ := Hd.form H9_2.out; subst e9_2; obtain ⟨A9_3, c9_3, e9_3⟩ := Hd.form H9_3.out; subst e9_3) | ((with_reducible refine gate_dst (N := 9) rfl ?_); refine box_event ?hg (N := 9) ?hd (cs := #[.slice none 0 0, .slice none 0 0, .slice none 0 0, .slice none 0 0]) (t := 26) ?hr ?_; (case hd => rfl); (case hg => rfl); (case hr => first | (go_simp; done) | (go_simp; rfl)); intro g9 hg w10 hbox hb; have BK_x_aB := Aside0.mk hbox; have NB_x_aB := Aside0.mk (show w9.heap.size ≤ g9 ∧ g9 < w10.heap.size from ⟨Nat.le_of_eq hg.symm, blk_lt hbox⟩); have D10 := Aside0.mk hb; clear hbox hg hb; have F10 := Aside0.mk (Fr.of_below D10.out); have HBn := Aside0.mk (below_step HB.out D10.out); clear HB; have HB := HBn; clear HBn; have G10 := Aside0.mk F10.out.1; have HB10 := Aside0.mk HB.out.size; clear D10; have BK_x_aAn := Aside0.mk (Fr.blk (Fr.blk (BK_x_aA.out) F9.out (.inr (Nat.zero_le _))) F10.out (.inr (Nat.zero_le _))); clear BK_x_aA; have BK_x_aA := BK_x_aAn; clear BK_x_aAn; have hc_x_aA_0 : w10.cell? ⟨g8, 0, none⟩ = some (.slice A6_0 l0_0.length c6_0) := (blk_cell BK_x_aA.out 0).trans rfl; have hc_x_aA_1 : w10.cell? ⟨g8, 1, none⟩ = some (.slice A6_1 l0_1.length c6_1) := (blk_cell BK_x_aA.out 1).trans rfl; have hc_x_aA_2 : w10.cell? ⟨g8, 2, none⟩ = some (.slice A6_2 l0_2.length c6_2) := (blk_cell BK_x_aA.out 2).trans rfl; have hc_x_aA_3 : w10.cell? ⟨g8, 3, none⟩ = some (.slice A6_3 l0_3.length c6_3) := (blk_cell BK_x_aA.out 3).trans rfl; have hz_0 := (blk_cell BK_x_aB.out 0).trans (show _ = some (.slice none 0 0 : Value) from rfl); have hf_0 := blk_frozen BK_x_aB.out 0; have hz_1 := (blk_cell BK_x_aB.out 1).trans (show _ = some (.slice none 0 0 : Value) from rfl); have hf_1 := blk_frozen BK_x_aB.out 1; have hz_2 := (blk_cell BK_x_aB.out 2).trans (show _ = some (.slice none 0 0 : Value) from rfl); have hf_2 := blk_frozen BK_x_aB.out 2; have hz_3 := (blk_cell BK_x_aB.out 3).trans (show _ = some (.slice none 0 0 : Value) from rfl); have hf_3 := blk_frozen BK_x_aB.out 3; have ne_x_aA : g8 ≠ g9 := by have := NB_x_aA.out; have := NB_x_aB.out; have := G8.out; have := G9.out; omega))
  generalize hw11 : (World.setCell (World.setCell (World.setCell (World.setCell w10 ⟨g9, 0, none⟩ (.slice A9_0 l1_0.length c9_0)) ⟨g9, 1, none⟩ (.slice A9_1 l1_1.length c9_1)) ⟨g9, 2, none⟩ (.slice A9_2 l1_2.length c9_2)) ⟨g9, 3, none⟩ (.slice A9_3 l1_3.length c9_3)) = w11
  have S11 := stored4 BK_x_aB.out HB.out (by have := NB_x_aB.out; have := HB9.out; omega) (.slice A9_0 l1_0.length c9_0) (.slice A9_1 l1_1.length c9_1) (.slice A9_2 l1_2.length c9_2) (.slice A9_3 l1_3.length c9_3)
  rw [hw11] at S11
  clear hw11 hz_0 hz_1 hz_2 hz_3 hf_0 hf_1 hf_2 hf_3 ne_x_aA
  clear hc_x_aA_0 hc_x_aA_1 hc_x_aA_2 hc_x_aA_3
  have BK_x_aBn := Aside0.mk S11.1
  clear BK_x_aB
  have BK_x_aB := BK_x_aBn
  clear BK_x_aBn
  have F11 := Aside0.mk (S11.2.1)
  have HBn := Aside0.mk (S11.2.2)
  clear HB
  have HB := HBn
  clear HBn
  have G11 := Aside0.mk F11.out.1
  have HB11 := Aside0.mk HB.out.size
  clear S11
  have H6_0n := Aside0.mk (Hd.move (Hd.move (Hd.move (Hd.move (Hd.move (H6_0.out) F7.out (.inr (Nat.zero_le _))) F8.out (by have := N6_0.out; have := NB_x_aA.out; left; omega)) F9.out (.inr (Nat.zero_le _))) F10.out (.inr (Nat.zero_le _))) F11.out (by have := N6_0.out; have := NB_x_aB.out; have := G7.out; have := G8.out; have := G9.out; left; omega))
  clear H6_0
  have H6_0 := H6_0n
  clear H6_0n
  have H6_1n := Aside0.mk (Hd.move (Hd.move (Hd.move (Hd.move (Hd.move (H6_1.out) F7.out (.inr (Nat.zero_le _))) F8.out (by have := N6_1.out; have := NB_x_aA.out; left; omega)) F9.out (.inr (Nat.zero_le _))) F10.out (.inr (Nat.zero_le _))) F11.out (by have := N6_1.out; have := NB_x_aB.out; have := G7.out; have := G8.out; have := G9.out; left; omega))
  clear H6_1
  have H6_1 := H6_1n
  clear H6_1n
  have H6_2n := Aside0.mk (Hd.move (Hd.move (Hd.move (Hd.move (Hd.move (H6_2.out) F7.out (.inr (Nat.zero_le _))) F8.out (by have := N6_2.out; have := NB_x_aA.out; left; omega)) F9.out (.inr (Nat.zero_le _))) F10.out (.inr (Nat.zero_le _))) F11.out (by have := N6_2.out; have := NB_x_aB.out; have := G7.out; have := G8.out; have := G9.out; left; omega))
  clear H6_2
  have H6_2 := H6_2n
  clear H6_2n
  have H6_3n := Aside0.mk (Hd.move (Hd.move (Hd.move (Hd.move (Hd.move (H6_3.out) F7.out (.inr (Nat.zero_le _))) F8.out (by have := N6_3.out; have := NB_x_aA.out; left; omega)) F9.out (.inr (Nat.zero_le _))) F10.out (.inr (Nat.zero_le _))) F11.out (by have := N6_3.out; have := NB_x_aB.out; have := G7.out; have := G8.out; have := G9.out; left; omega))
  clear H6_3
  have H6_3 := H6_3n
  clear H6_3n
  have H9_0n := Aside0.mk (Hd.move (Hd.move (H9_0.out) F10.out (.inr (Nat.zero_le _))) F11.out (by have := N9_0.out; have := NB_x_aB.out; left; omega))
  clear H9_0
  have H9_0 := H9_0n
  clear H9_0n
  have H9_1n := Aside0.mk (Hd.move (Hd.move (H9_1.out) F10.out (.inr (Nat.zero_le _))) F11.out (by have := N9_1.out; have := NB_x_aB.out; left; omega))
  clear H9_1
  have H9_1 := H9_1n
  clear H9_1n
  have H9_2n := Aside0.mk (Hd.move (Hd.move (H9_2.out) F10.out (.inr (Nat.zero_le _))) F11.out (by have := N9_2.out; have := NB_x_aB.out; left; omega))
  clear H9_2
  have H9_2 := H9_2n
  clear H9_2n
  have H9_3n := Aside0.mk (Hd.move (Hd.move (H9_3.out) F10.out (.inr (Nat.zero_le _))) F11.out (by have := N9_3.out; have := NB_x_aB.out; left; omega))
  clear H9_3
  have H9_3 := H9_3n
  clear H9_3n
  go_wp2_with (first | (go_at_call 13; (with_reducible refine (impl_JoinCases.calls k _ _ l0_0 _ _ l0_1 _ _ l0_2 _ _ l0_3 _ _ l1_0 _ _ l1_1 _ _ l1_2 _ _ l1_3 R0 R1 R2 R3 b (w11) (Hd.C H6_0.out) (Hd.cap H6_0.out) (Hd.C H6_1.out) (Hd.cap H6_1.out) (Hd.C H6_2.out) (Hd.cap H6_2.out) (Hd.C H6_3.out) (Hd.cap H6_3.out) (Hd.C H9_0.out) (Hd.cap H9_0.out) (Hd.C H9_1.out) (Hd.cap H9_1.out) (Hd.C H9_2.out) (Hd.cap H9_2.out) (Hd.C H9_3.out) (Hd.cap H9_3.out) (F_impl.out)).mono ?_); rintro e w12 ⟨v12_0, v12_1, v12_2, v12_3, rfl, hn0, hn1, hn2, hn3, hb⟩; have D12 := Aside0.mk hb; clear hb; have M12_0 := Aside0.mk hn0; clear hn0; have M12_1 := Aside0.mk hn1; clear hn1; have M12_2 := Aside0.mk hn2; clear hn2; have M12_3 := Aside0.mk hn3; clear hn3; have F12 := Aside0.mk (Fr.of_below D12.out); have HBn := Aside0.mk (below_step HB.out D12.out); clear HB; have HB := HBn; clear HBn; have G12 := Aside0.mk F12.out.1; have HB12 := Aside0.mk HB.out.size; obtain ⟨a12_0, b12_0, N12_0, H12_0⟩ := Hd.new M12_0.out (B := w.heap.size) HB11.out G12.out; have N12_0 := Aside0.mk N12_0; have H12_0 := Aside0.mk H12_0; obtain ⟨a12_1, b12_1, N12_1, H12_1⟩ := Hd.new M12_1.out (B := w.heap.size) HB11.out G12.out; have N12_1 := Aside0.mk N12_1; have H12_1 := Aside0.mk H12_1; obtain ⟨a12_2, b12_2, N12_2, H12_2⟩ := Hd.new M12_2.out (B := w.heap.size) HB11.out G12.out; have N12_2 := Aside0.mk N12_2; have H12_2 := Aside0.mk H12_2; obtain ⟨a12_3, b12_3, N12_3, H12_3⟩ := Hd.new M12_3.out (B := w.heap.size) HB11.out G12.out; have N12_3 := Aside0.mk N12_3; have H12_3 := Aside0.mk H12_3; have P12_0_1 := Aside0.mk (show ∀ k_, some k_ = (v12_0 : Value).ownBlock → ¬ some k_ = (v12_1 : Value).ownBlock from fun k_ h1 h2 => (M12_0.out.1 k_ h1.symm).1 h2); have P12_0_2 := Aside0.mk (show ∀ k_, some k_ = (v12_0 : Value).ownBlock → ¬ some k_ = (v12_2 : Value).ownBlock from fun k_ h1 h2 => (M12_0.out.1 k_ h1.symm).2.1 h2); have P12_0_3 := Aside0.mk (show ∀ k_, some k_ = (v12_0 : Value).ownBlock → ¬ some k_ = (v12_3 : Value).ownBlock from fun k_ h1 h2 => (M12_0.out.1 k_ h1.symm).2.2 h2); have P12_1_0 := Aside0.mk (show ∀ k_, some k_ = (v12_1 : Value).ownBlock → ¬ some k_ = (v12_0 : Value).ownBlock from fun k_ h1 h2 => (M12_1.out.1 k_ h1.symm).1 h2); have P12_1_2 := Aside0.mk (show ∀ k_, some k_ = (v12_1 : Value).ownBlock → ¬ some k_ = (v12_2 : Value).ownBlock from fun k_ h1 h2 => (M12_1.out.1 k_ h1.symm).2.1 h2); have P12_1_3 := Aside0.mk (show ∀ k_, some k_ = (v12_1 : Value).ownBlock → ¬ some k_ = (v12_3 : Value).ownBlock from fun k_ h1 h2 => (M12_1.out.1 k_ h1.symm).2.2 h2); have P12_2_0 := Aside0.mk (show ∀ k_, some k_ = (v12_2 : Value).ownBlock → ¬ some k_ = (v12_0 : Value).ownBlock from fun k_ h1 h2 => (M12_2.out.1 k_ h1.symm).1 h2); have P12_2_1 := Aside0.mk (show ∀ k_, some k_ = (v12_2 : Value).ownBlock → ¬ some k_ = (v12_1 : Value).ownBlock from fun k_ h1 h2 => (M12_2.out.1 k_ h1.symm).2.1 h2); have P12_2_3 := Aside0.mk (show ∀ k_, some k_ = (v12_2 : Value).ownBlock → ¬ some k_ = (v12_3 : Value).ownBlock from fun k_ h1 h2 => (M12_2.out.1 k_ h1.symm).2.2 h2); have P12_3_0 := Aside0.mk (show ∀ k_, some k_ = (v12_3 : Value).ownBlock → ¬ some k_ = (v12_0 : Value).ownBlock from fun k_ h1 h2 => (M12_3.out.1 k_ h1.symm).1 h2); have P12_3_1 := Aside0.mk (show ∀ k_, some k_ = (v12_3 : Value).ownBlock → ¬ some k_ = (v12_1 : Value).ownBlock from fun k_ h1 h2 => (M12_3.out.1 k_ h1.symm).2.1 h2); have P12_3_2 := Aside0.mk (show ∀ k_, some k_ = (v12_3 : Value).ownBlock → ¬ some k_ = (v12_2 : Value).ownBlock from fun k_ h1 h2 => (M12_3.out.1 k_ h1.symm).2.2 h2); clear M12_0 M12_1 M12_2 M12_3; obtain ⟨A12_0, c12_0, e12_0⟩ := Hd.form H12_0.out; subst e12_0; obtain ⟨A12_1, c12_1, e12_1⟩ := Hd.form H12_1.out; subst e12_1; obtain ⟨A12_2, c12_2, e12_2⟩ := Hd.form H12_2.out; subst e12_2; obtain ⟨A12_3, c12_3, e12_3⟩ := Hd.form H12_3.out; subst e12_3) | ((with_reducible refine gate_dst (N := 10) rfl ?_); refine box_event ?hg (N := 10) ?hd (cs := #[.slice none 0 0, .slice none 0 0, .slice none 0 0, .slice none 0 0]) (t := 26) ?hr ?_; (case hd => rfl); (case hg => rfl); (case hr => first | (go_simp; done) | (go_simp; rfl)); intro g10 hg w13 hbox hb; have BK_g0 := Aside0.mk hbox; have NB_g0 := Aside0.mk (show w12.heap.size ≤ g10 ∧ g10 < w13.heap.size from ⟨Nat.le_of_eq hg.symm, blk_lt hbox⟩); have D13 := Aside0.mk hb; clear hbox hg hb; have F13 := Aside0.mk (Fr.of_below D13.out); have HBn := Aside0.mk (below_step HB.out D13.out); clear HB; have HB := HBn; clear HBn; have G13 := Aside0.mk F13.out.1; have HB13 := Aside0.mk HB.out.size; clear D13; have BK_w0n := Aside0.mk (Fr.blk (Fr.blk (Fr.blk (Fr.blk (Fr.blk (Fr.blk (Fr.blk (Fr.blk (BK_w0.out) F6.out (.inr (Nat.zero_le _))) F7.out (.inr (Nat.zero_le _))) F8.out (by have := NB_w0.out; have := NB_x_aA.out; have := G6.out; left; omega)) F9.out (.inr (Nat.zero_le _))) F10.out (.inr (Nat.zero_le _))) F11.out (by have := NB_w0.out; have := NB_x_aB.out; have := G6.out; have := G7.out; have := G8.out; have := G9.out; left; omega)) F12.out (.inr (Nat.zero_le _))) F13.out (.inr (Nat.zero_le _))); clear BK_w0; have BK_w0 := BK_w0n; clear BK_w0n; have hc_w0_0 : w13.cell? ⟨g5, 0, none⟩ = some (.slice A5_0 R0.length c5_0) := (blk_cell BK_w0.out 0).trans rfl; have hc_w0_1 : w13.cell? ⟨g5, 1, none⟩ = some (.slice A5_1 R1.length c5_1) := (blk_cell BK_w0.out 1).trans rfl; have hc_w0_2 : w13.cell? ⟨g5, 2, none⟩ = some (.slice A5_2 R2.length c5_2) := (blk_cell BK_w0.out 2).trans rfl; have hc_w0_3 : w13.cell? ⟨g5, 3, none⟩ = some (.slice A5_3 R3.length c5_3) := (blk_cell BK_w0.out 3).trans rfl; have hz_0 := (blk_cell BK_g0.out 0).trans (show _ = some (.slice none 0 0 : Value) from rfl); have hf_0 := blk_frozen BK_g0.out 0; have hz_1 := (blk_cell BK_g0.out 1).trans (show _ = some (.slice none 0 0 : Value) from rfl); have hf_1 := blk_frozen BK_g0.out 1; have hz_2 := (blk_cell BK_g0.out 2).trans (show _ = some (.slice none 0 0 : Value) from rfl); have hf_2 := blk_frozen BK_g0.out 2; have hz_3 := (blk_cell BK_g0.out 3).trans (show _ = some (.slice none 0 0 : Value) from rfl); have hf_3 := blk_frozen BK_g0.out 3; have ne_w0 : g5 ≠ g10 := by have := NB_w0.out; have := NB_g0.out; have := G6.out; have := G7.out; have := G8.out; have := G9.out; have := G10.out; have := G11.out; have := G12.out; omega))
  generalize hw14 : (World.setCell (World.setCell (World.setCell (World.setCell w13 ⟨g10, 0, none⟩ (.slice A12_0 R0.length c12_0)) ⟨g10, 1, none⟩ (.slice A12_1 R1.length c12_1)) ⟨g10, 2, none⟩ (.slice A12_2 R2.length c12_2)) ⟨g10, 3, none⟩ (.slice A12_3 R3.length c12_3)) = w14
  have S14 := stored4 BK_g0.out HB.out (by have := NB_g0.out; have := HB12.out; omega) (.slice A12_0 R0.length c12_0) (.slice A12_1 R1.length c12_1) (.slice A12_2 R2.length c12_2) (.slice A12_3 R3.length c12_3)
  rw [hw14] at S14
  clear hw14 hz_0 hz_1 hz_2 hz_3 hf_0 hf_1 hf_2 hf_3 ne_w0
  clear hc_w0_0 hc_w0_1 hc_w0_2 hc_w0_3
  have BK_g0n := Aside0.mk S14.1
  clear BK_g0
  have BK_g0 := BK_g0n
  clear BK_g0n
  have F14 := Aside0.mk (S14.2.1)
  have HBn := Aside0.mk (S14.2.2)
  clear HB
  have HB := HBn
  clear HBn
  have G14 := Aside0.mk F14.out.1
  have HB14 := Aside0.mk HB.out.size
  clear S14
  have H12_0n := Aside0.mk (Hd.move (Hd.move (H12_0.out) F13.out (.inr (Nat.zero_le _))) F14.out (by have := N12_0.out; have := NB_g0.out; left; omega))
  clear H12_0
  have H12_0 := H12_0n
  clear H12_0n
  have H12_1n := Aside0.mk (Hd.move (Hd.move (H12_1.out) F13.out (.inr (Nat.zero_le _))) F14.out (by have := N12_1.out; have := NB_g0.out; left; omega))
  clear H12_1
  have H12_1 := H12_1n
  clear H12_1n
  have H12_2n := Aside0.mk (Hd.move (Hd.move (H12_2.out) F13.out (.inr (Nat.zero_le _))) F14.out (by have := N12_2.out; have := NB_g0.out; left; omega))
  clear H12_2
  have H12_2 := H12_2n
  clear H12_2n
  have H12_3n := Aside0.mk (Hd.move (Hd.move (H12_3.out) F13.out (.inr (Nat.zero_le _))) F14.out (by have := N12_3.out; have := NB_g0.out; left; omega))
  clear H12_3
  have H12_3 := H12_3n
  clear H12_3n
  have H5_0n := Aside0.mk (Hd.move (Hd.move (Hd.move (Hd.move (Hd.move (Hd.move (Hd.move (Hd.move (Hd.move (H5_0.out) F6.out (.inr (Nat.zero_le _))) F7.out (.inr (Nat.zero_le _))) F8.out (by have := N5_0.out; have := NB_x_aA.out; have := G6.out; left; omega)) F9.out (.inr (Nat.zero_le _))) F10.out (.inr (Nat.zero_le _))) F11.out (by have := N5_0.out; have := NB_x_aB.out; have := G6.out; have := G7.out; have := G8.out; have := G9.out; left; omega)) F12.out (.inr (Nat.zero_le _))) F13.out (.inr (Nat.zero_le _))) F14.out (by have := N5_0.out; have := NB_g0.out; have := G6.out; have := G7.out; have := G8.out; have := G9.out; have := G10.out; have := G11.out; have := G12.out; left; omega))
  clear H5_0
  have H5_0 := H5_0n
  clear H5_0n
  have H5_1n := Aside0.mk (Hd.move (Hd.move (Hd.move (Hd.move (Hd.move (Hd.move (Hd.move (Hd.move (Hd.move (H5_1.out) F6.out (.inr (Nat.zero_le _))) F7.out (.inr (Nat.zero_le _))) F8.out (by have := N5_1.out; have := NB_x_aA.out; have := G6.out; left; omega)) F9.out (.inr (Nat.zero_le _))) F10.out (.inr (Nat.zero_le _))) F11.out (by have := N5_1.out; have := NB_x_aB.out; have := G6.out; have := G7.out; have := G8.out; have := G9.out; left; omega)) F12.out (.inr (Nat.zero_le _))) F13.out (.inr (Nat.zero_le _))) F14.out (by have := N5_1.out; have := NB_g0.out; have := G6.out; have := G7.out; have := G8.out; have := G9.out; have := G10.out; have := G11.out; have := G12.out; left; omega))
  clear H5_1
  have H5_1 := H5_1n
  clear H5_1n
  have H5_2n := Aside0.mk (Hd.move (Hd.move (Hd.move (Hd.move (Hd.move (Hd.move (Hd.move (Hd.move (Hd.move (H5_2.out) F6.out (.inr (Nat.zero_le _))) F7.out (.inr (Nat.zero_le _))) F8.out (by have := N5_2.out; have := NB_x_aA.out; have := G6.out; left; omega)) F9.out (.inr (Nat.zero_le _))) F10.out (.inr (Nat.zero_le _))) F11.out (by have := N5_2.out; have := NB_x_aB.out; have := G6.out; have := G7.out; have := G8.out; have := G9.out; left; omega)) F12.out (.inr (Nat.zero_le _))) F13.out (.inr (Nat.zero_le _))) F14.out (by have := N5_2.out; have := NB_g0.out; have := G6.out; have := G7.out; have := G8.out; have := G9.out; have := G10.out; have := G11.out; have := G12.out; left; omega))
  clear H5_2
  have H5_2 := H5_2n
  clear H5_2n
  have H5_3n := Aside0.mk (Hd.move (Hd.move (Hd.move (Hd.move (Hd.move (Hd.move (Hd.move (Hd.move (Hd.move (H5_3.out) F6.out (.inr (Nat.zero_le _))) F7.out (.inr (Nat.zero_le _))) F8.out (by have := N5_3.out; have := NB_x_aA.out; have := G6.out; left; omega)) F9.out (.inr (Nat.zero_le _))) F10.out (.inr (Nat.zero_le _))) F11.out (by have := N5_3.out; have := NB_x_aB.out; have := G6.out; have := G7.out; have := G8.out; have := G9.out; left; omega)) F12.out (.inr (Nat.zero_le _))) F13.out (.inr (Nat.zero_le _))) F14.out (by have := N5_3.out; have := NB_g0.out; have := G6.out; have := G7.out; have := G8.out; have := G9.out; have := G10.out; have := G11.out; have := G12.out; left; omega))
  clear H5_3
  have H5_3 := H5_3n
  clear H5_3n
  go_wp2_with (first | (go_at_call 9; (with_reducible refine (laws_eqCase.calls k _ _ R0 _ _ R1 _ _ R2 _ _ R3 _ _ R0 _ _ R1 _ _ R2 _ _ R3 true (w14) (Hd.C H12_0.out) (Hd.cap H12_0.out) (Hd.C H12_1.out) (Hd.cap H12_1.out) (Hd.C H12_2.out) (Hd.cap H12_2.out) (Hd.C H12_3.out) (Hd.cap H12_3.out) (Hd.C H5_0.out) (Hd.cap H5_0.out) (Hd.C H5_1.out) (Hd.cap H5_1.out) (Hd.C H5_2.out) (Hd.cap H5_2.out) (Hd.C H5_3.out) (Hd.cap H5_3.out) (F_eqR.out)).mono ?_); rintro e w15 ⟨rfl, hb⟩; have D15 := Aside0.mk hb; clear hb; have F15 := Aside0.mk (Fr.of_below D15.out); have HBn := Aside0.mk (below_step HB.out D15.out); clear HB; have HB := HBn; clear HBn; have G15 := Aside0.mk F15.out.1; have HB15 := Aside0.mk HB.out.size; have BK_x_aAn := Aside0.mk (Fr.blk (Fr.blk (Fr.blk (Fr.blk (Fr.blk (BK_x_aA.out) F11.out (by have := NB_x_aA.out; have := NB_x_aB.out; have := G8.out; have := G9.out; left; omega)) F12.out (.inr (Nat.zero_le _))) F13.out (.inr (Nat.zero_le _))) F14.out (by have := NB_x_aA.out; have := NB_g0.out; have := G8.out; have := G9.out; have := G10.out; have := G11.out; have := G12.out; left; omega)) F15.out (.inr (Nat.zero_le _))); clear BK_x_aA; have BK_x_aA := BK_x_aAn; clear BK_x_aAn; have hc_x_aA_0 : w15.cell? ⟨g8, 0, none⟩ = some (.slice A6_0 l0_0.length c6_0) := (blk_cell BK_x_aA.out 0).trans rfl; have hc_x_aA_1 : w15.cell? ⟨g8, 1, none⟩ = some (.slice A6_1 l0_1.length c6_1) := (blk_cell BK_x_aA.out 1).trans rfl; have hc_x_aA_2 : w15.cell? ⟨g8, 2, none⟩ = some (.slice A6_2 l0_2.length c6_2) := (blk_cell BK_x_aA.out 2).trans rfl; have hc_x_aA_3 : w15.cell? ⟨g8, 3, none⟩ = some (.slice A6_3 l0_3.length c6_3) := (blk_cell BK_x_aA.out 3).trans rfl; have BK_paAn := Aside0.mk (Fr.blk (Fr.blk (Fr.blk (Fr.blk (Fr.blk (Fr.blk (Fr.blk (Fr.blk (Fr.blk (Fr.blk (BK_paA.out) F6.out (.inr (Nat.zero_le _))) F7.out (.inr (Nat.zero_le _))) F8.out (by have := NB_paA.out; have := NB_x_aA.out; have := G2.out; have := G3.out; have := G4.out; have := G5.out; have := G6.out; left; omega)) F9.out (.inr (Nat.zero_le _))) F10.out (.inr (Nat.zero_le _))) F11.out (by have := NB_paA.out; have := NB_x_aB.out; have := G2.out; have := G3.out; have := G4.out; have := G5.out; have := G6.out; have := G7.out; have := G8.out; have := G9.out; left; omega)) F12.out (.inr (Nat.zero_le _))) F13.out (.inr (Nat.zero_le _))) F14.out (by have := NB_paA.out; have := NB_g0.out; have := G2.out; have := G3.out; have := G4.out; have := G5.out; have := G6.out; have := G7.out; have := G8.out; have := G9.out; have := G10.out; have := G11.out; have := G12.out; left; omega)) F15.out (.inr (Nat.zero_le _))); clear BK_paA; have BK_paA := BK_paAn; clear BK_paAn; have hc_paA_0 : w15.cell? ⟨g2, 0, none⟩ = some (.slice A0_0 l0_0.length c0_0) := (blk_cell BK_paA.out 0).trans rfl; have hc_paA_1 : w15.cell? ⟨g2, 1, none⟩ = some (.slice A0_1 l0_1.length c0_1) := (blk_cell BK_paA.out 1).trans rfl; have hc_paA_2 : w15.cell? ⟨g2, 2, none⟩ = some (.slice A0_2 l0_2.length c0_2) := (blk_cell BK_paA.out 2).trans rfl; have hc_paA_3 : w15.cell? ⟨g2, 3, none⟩ = some (.slice A0_3 l0_3.length c0_3) := (blk_cell BK_paA.out 3).trans rfl))
  clear hc_x_aA_0
  have hc_x_aA_0 : w15.cell? ⟨g8, 0, none⟩ = some (.slice A6_0 l0_0.length c6_0) := (blk_cell BK_x_aA.out 0).trans rfl
  clear hc_x_aA_1
  have hc_x_aA_1 : w15.cell? ⟨g8, 1, none⟩ = some (.slice A6_1 l0_1.length c6_1) := (blk_cell BK_x_aA.out 1).trans rfl
  clear hc_x_aA_2
  have hc_x_aA_2 : w15.cell? ⟨g8, 2, none⟩ = some (.slice A6_2 l0_2.length c6_2) := (blk_cell BK_x_aA.out 2).trans rfl
  clear hc_x_aA_3
  have hc_x_aA_3 : w15.cell? ⟨g8, 3, none⟩ = some (.slice A6_3 l0_3.length c6_3) := (blk_cell BK_x_aA.out 3).trans rfl
  clear hc_paA_0
  have hc_paA_0 : w15.cell? ⟨g2, 0, none⟩ = some (.slice A0_0 l0_0.length c0_0) := (blk_cell BK_paA.out 0).trans rfl
  clear hc_paA_1
  have hc_paA_1 : w15.cell? ⟨g2, 1, none⟩ = some (.slice A0_1 l0_1.length c0_1) := (blk_cell BK_paA.out 1).trans rfl
  clear hc_paA_2
  have hc_paA_2 : w15.cell? ⟨g2, 2, none⟩ = some (.slice A0_2 l0_2.length c0_2) := (blk_cell BK_paA.out 2).trans rfl
  clear hc_paA_3
  have hc_paA_3 : w15.cell? ⟨g2, 3, none⟩ = some (.slice A0_3 l0_3.length c0_3) := (blk_cell BK_paA.out 3).trans rfl
  have F16 := Aside0.mk (Fr.drew w15)
  have HBn := Aside0.mk (below_drew1 HB.out)
  clear HB
  have HB := HBn
  clear HBn
  have G16 := Aside0.mk F16.out.1
  have HB16 := Aside0.mk HB.out.size
  go_region_held3 (fun w' => w'.cell? ⟨g8, 0, none⟩ = some (.slice A6_0 l0_0.length c6_0) ∧ w'.cell? ⟨g8, 1, none⟩ = some (.slice A6_1 l0_1.length c6_1) ∧ w'.cell? ⟨g8, 2, none⟩ = some (.slice A6_2 l0_2.length c6_2) ∧ w'.cell? ⟨g8, 3, none⟩ = some (.slice A6_3 l0_3.length c6_3) ∧ w'.cell? ⟨g2, 0, none⟩ = some (.slice A0_0 l0_0.length c0_0) ∧ w'.cell? ⟨g2, 1, none⟩ = some (.slice A0_1 l0_1.length c0_1) ∧ w'.cell? ⟨g2, 2, none⟩ = some (.slice A0_2 l0_2.length c0_2) ∧ w'.cell? ⟨g2, 3, none⟩ = some (.slice A0_3 l0_3.length c0_3)) (first | go_keep | (go_split_ands; refine ⟨?_, ?_, ?_, ?_, ?_, ?_, ?_, ?_⟩ <;> first | exact pw_cell_below hq2 (by assumption) | exact pw_cell_below hq1 (by assumption))) ((first | (go_at_call 7; (with_reducible refine (laws_toCase.calls k _ _ l0_0 _ _ l0_1 _ _ l0_2 _ _ l0_3 l0_0 l0_1 l0_2 l0_3 (w15.drew) (Kd.C_below HR0_0.out HB.out) HC0_0.out (Kd.C_below HR0_1.out HB.out) HC0_1.out (Kd.C_below HR0_2.out HB.out) HC0_2.out (Kd.C_below HR0_3.out HB.out) HC0_3.out (F_toaA.out)).mono ?_); rintro e w17 ⟨v17_0, v17_1, v17_2, v17_3, rfl, hn0, hn1, hn2, hn3, hb⟩; have D17 := Aside0.mk hb; clear hb; have M17_0 := Aside0.mk hn0; clear hn0; have M17_1 := Aside0.mk hn1; clear hn1; have M17_2 := Aside0.mk hn2; clear hn2; have M17_3 := Aside0.mk hn3; clear hn3; have F17 := Aside0.mk (Fr.of_below D17.out); have HBn := Aside0.mk (below_step HB.out D17.out); clear HB; have HB := HBn; clear HBn; have G17 := Aside0.mk F17.out.1; have HB17 := Aside0.mk HB.out.size; obtain ⟨a17_0, b17_0, N17_0, H17_0⟩ := Hd.new M17_0.out (B := w.heap.size) HB16.out G17.out; have N17_0 := Aside0.mk N17_0; have H17_0 := Aside0.mk H17_0; obtain ⟨a17_1, b17_1, N17_1, H17_1⟩ := Hd.new M17_1.out (B := w.heap.size) HB16.out G17.out; have N17_1 := Aside0.mk N17_1; have H17_1 := Aside0.mk H17_1; obtain ⟨a17_2, b17_2, N17_2, H17_2⟩ := Hd.new M17_2.out (B := w.heap.size) HB16.out G17.out; have N17_2 := Aside0.mk N17_2; have H17_2 := Aside0.mk H17_2; obtain ⟨a17_3, b17_3, N17_3, H17_3⟩ := Hd.new M17_3.out (B := w.heap.size) HB16.out G17.out; have N17_3 := Aside0.mk N17_3; have H17_3 := Aside0.mk H17_3; have P17_0_1 := Aside0.mk (show ∀ k_, some k_ = (v17_0 : Value).ownBlock → ¬ some k_ = (v17_1 : Value).ownBlock from fun k_ h1 h2 => (M17_0.out.1 k_ h1.symm).1 h2); have P17_0_2 := Aside0.mk (show ∀ k_, some k_ = (v17_0 : Value).ownBlock → ¬ some k_ = (v17_2 : Value).ownBlock from fun k_ h1 h2 => (M17_0.out.1 k_ h1.symm).2.1 h2); have P17_0_3 := Aside0.mk (show ∀ k_, some k_ = (v17_0 : Value).ownBlock → ¬ some k_ = (v17_3 : Value).ownBlock from fun k_ h1 h2 => (M17_0.out.1 k_ h1.symm).2.2 h2); have P17_1_0 := Aside0.mk (show ∀ k_, some k_ = (v17_1 : Value).ownBlock → ¬ some k_ = (v17_0 : Value).ownBlock from fun k_ h1 h2 => (M17_1.out.1 k_ h1.symm).1 h2); have P17_1_2 := Aside0.mk (show ∀ k_, some k_ = (v17_1 : Value).ownBlock → ¬ some k_ = (v17_2 : Value).ownBlock from fun k_ h1 h2 => (M17_1.out.1 k_ h1.symm).2.1 h2); have P17_1_3 := Aside0.mk (show ∀ k_, some k_ = (v17_1 : Value).ownBlock → ¬ some k_ = (v17_3 : Value).ownBlock from fun k_ h1 h2 => (M17_1.out.1 k_ h1.symm).2.2 h2); have P17_2_0 := Aside0.mk (show ∀ k_, some k_ = (v17_2 : Value).ownBlock → ¬ some k_ = (v17_0 : Value).ownBlock from fun k_ h1 h2 => (M17_2.out.1 k_ h1.symm).1 h2); have P17_2_1 := Aside0.mk (show ∀ k_, some k_ = (v17_2 : Value).ownBlock → ¬ some k_ = (v17_1 : Value).ownBlock from fun k_ h1 h2 => (M17_2.out.1 k_ h1.symm).2.1 h2); have P17_2_3 := Aside0.mk (show ∀ k_, some k_ = (v17_2 : Value).ownBlock → ¬ some k_ = (v17_3 : Value).ownBlock from fun k_ h1 h2 => (M17_2.out.1 k_ h1.symm).2.2 h2); have P17_3_0 := Aside0.mk (show ∀ k_, some k_ = (v17_3 : Value).ownBlock → ¬ some k_ = (v17_0 : Value).ownBlock from fun k_ h1 h2 => (M17_3.out.1 k_ h1.symm).1 h2); have P17_3_1 := Aside0.mk (show ∀ k_, some k_ = (v17_3 : Value).ownBlock → ¬ some k_ = (v17_1 : Value).ownBlock from fun k_ h1 h2 => (M17_3.out.1 k_ h1.symm).2.1 h2); have P17_3_2 := Aside0.mk (show ∀ k_, some k_ = (v17_3 : Value).ownBlock → ¬ some k_ = (v17_2 : Value).ownBlock from fun k_ h1 h2 => (M17_3.out.1 k_ h1.symm).2.2 h2); clear M17_0 M17_1 M17_2 M17_3; obtain ⟨A17_0, c17_0, e17_0⟩ := Hd.form H17_0.out; subst e17_0; obtain ⟨A17_1, c17_1, e17_1⟩ := Hd.form H17_1.out; subst e17_1; obtain ⟨A17_2, c17_2, e17_2⟩ := Hd.form H17_2.out; subst e17_2; obtain ⟨A17_3, c17_3, e17_3⟩ := Hd.form H17_3.out; subst e17_3; have hq1 := D17.out; have H6_0n := Aside0.mk (Hd.move (Hd.move (Hd.move (Hd.move (Hd.move (Hd.move (H6_0.out) F12.out (.inr (Nat.zero_le _))) F13.out (.inr (Nat.zero_le _))) F14.out (by have := N6_0.out; have := NB_g0.out; have := G7.out; have := G8.out; have := G9.out; have := G10.out; have := G11.out; have := G12.out; left; omega)) F15.out (.inr (Nat.zero_le _))) F16.out (.inr (Nat.zero_le _))) F17.out (.inr (Nat.zero_le _))); clear H6_0; have H6_0 := H6_0n; clear H6_0n; have H6_1n := Aside0.mk (Hd.move (Hd.move (Hd.move (Hd.move (Hd.move (Hd.move (H6_1.out) F12.out (.inr (Nat.zero_le _))) F13.out (.inr (Nat.zero_le _))) F14.out (by have := N6_1.out; have := NB_g0.out; have := G7.out; have := G8.out; have := G9.out; have := G10.out; have := G11.out; have := G12.out; left; omega)) F15.out (.inr (Nat.zero_le _))) F16.out (.inr (Nat.zero_le _))) F17.out (.inr (Nat.zero_le _))); clear H6_1; have H6_1 := H6_1n; clear H6_1n; have H6_2n := Aside0.mk (Hd.move (Hd.move (Hd.move (Hd.move (Hd.move (Hd.move (H6_2.out) F12.out (.inr (Nat.zero_le _))) F13.out (.inr (Nat.zero_le _))) F14.out (by have := N6_2.out; have := NB_g0.out; have := G7.out; have := G8.out; have := G9.out; have := G10.out; have := G11.out; have := G12.out; left; omega)) F15.out (.inr (Nat.zero_le _))) F16.out (.inr (Nat.zero_le _))) F17.out (.inr (Nat.zero_le _))); clear H6_2; have H6_2 := H6_2n; clear H6_2n; have H6_3n := Aside0.mk (Hd.move (Hd.move (Hd.move (Hd.move (Hd.move (Hd.move (H6_3.out) F12.out (.inr (Nat.zero_le _))) F13.out (.inr (Nat.zero_le _))) F14.out (by have := N6_3.out; have := NB_g0.out; have := G7.out; have := G8.out; have := G9.out; have := G10.out; have := G11.out; have := G12.out; left; omega)) F15.out (.inr (Nat.zero_le _))) F16.out (.inr (Nat.zero_le _))) F17.out (.inr (Nat.zero_le _))); clear H6_3; have H6_3 := H6_3n; clear H6_3n) | (go_at_call 9; (with_reducible refine (laws_eqCase.calls k _ _ l0_0 _ _ l0_1 _ _ l0_2 _ _ l0_3 _ _ l0_0 _ _ l0_1 _ _ l0_2 _ _ l0_3 true (w17) (Hd.C H6_0.out) (Hd.cap H6_0.out) (Hd.C H6_1.out) (Hd.cap H6_1.out) (Hd.C H6_2.out) (Hd.cap H6_2.out) (Hd.C H6_3.out) (Hd.cap H6_3.out) (Hd.C H17_0.out) (Hd.cap H17_0.out) (Hd.C H17_1.out) (Hd.cap H17_1.out) (Hd.C H17_2.out) (Hd.cap H17_2.out) (Hd.C H17_3.out) (Hd.cap H17_3.out) (F_eqaA.out)).mono ?_); rintro e w18 ⟨rfl, hb⟩; have D18 := Aside0.mk hb; clear hb; have F18 := Aside0.mk (Fr.of_below D18.out); have HBn := Aside0.mk (below_step HB.out D18.out); clear HB; have HB := HBn; clear HBn; have G18 := Aside0.mk F18.out.1; have HB18 := Aside0.mk HB.out.size; have hq2 := D18.out)))
  clear hq1 hq2
  clear hc_x_aA_0 hc_x_aA_1 hc_x_aA_2 hc_x_aA_3 hc_paA_0 hc_paA_1 hc_paA_2 hc_paA_3
  have BK_x_aBn := Aside0.mk (Fr.blk (Fr.blk (Fr.blk (Fr.blk (Fr.blk (Fr.blk (Fr.blk (BK_x_aB.out) F12.out (.inr (Nat.zero_le _))) F13.out (.inr (Nat.zero_le _))) F14.out (by have := NB_x_aB.out; have := NB_g0.out; have := G11.out; have := G12.out; left; omega)) F15.out (.inr (Nat.zero_le _))) F16.out (.inr (Nat.zero_le _))) F17.out (.inr (Nat.zero_le _))) F18.out (.inr (Nat.zero_le _)))
  clear BK_x_aB
  have BK_x_aB := BK_x_aBn
  clear BK_x_aBn
  have hc_x_aB_0 : w18.cell? ⟨g9, 0, none⟩ = some (.slice A9_0 l1_0.length c9_0) := (blk_cell BK_x_aB.out 0).trans rfl
  have hc_x_aB_1 : w18.cell? ⟨g9, 1, none⟩ = some (.slice A9_1 l1_1.length c9_1) := (blk_cell BK_x_aB.out 1).trans rfl
  have hc_x_aB_2 : w18.cell? ⟨g9, 2, none⟩ = some (.slice A9_2 l1_2.length c9_2) := (blk_cell BK_x_aB.out 2).trans rfl
  have hc_x_aB_3 : w18.cell? ⟨g9, 3, none⟩ = some (.slice A9_3 l1_3.length c9_3) := (blk_cell BK_x_aB.out 3).trans rfl
  have BK_paBn := Aside0.mk (Fr.blk (Fr.blk (Fr.blk (Fr.blk (Fr.blk (Fr.blk (Fr.blk (Fr.blk (Fr.blk (Fr.blk (Fr.blk (BK_paB.out) F8.out (by have := NB_paB.out; have := NB_x_aA.out; have := G3.out; have := G4.out; have := G5.out; have := G6.out; left; omega)) F9.out (.inr (Nat.zero_le _))) F10.out (.inr (Nat.zero_le _))) F11.out (by have := NB_paB.out; have := NB_x_aB.out; have := G3.out; have := G4.out; have := G5.out; have := G6.out; have := G7.out; have := G8.out; have := G9.out; left; omega)) F12.out (.inr (Nat.zero_le _))) F13.out (.inr (Nat.zero_le _))) F14.out (by have := NB_paB.out; have := NB_g0.out; have := G3.out; have := G4.out; have := G5.out; have := G6.out; have := G7.out; have := G8.out; have := G9.out; have := G10.out; have := G11.out; have := G12.out; left; omega)) F15.out (.inr (Nat.zero_le _))) F16.out (.inr (Nat.zero_le _))) F17.out (.inr (Nat.zero_le _))) F18.out (.inr (Nat.zero_le _)))
  clear BK_paB
  have BK_paB := BK_paBn
  clear BK_paBn
  have hc_paB_0 : w18.cell? ⟨g3, 0, none⟩ = some (.slice A1_0 l1_0.length c1_0) := (blk_cell BK_paB.out 0).trans rfl
  have hc_paB_1 : w18.cell? ⟨g3, 1, none⟩ = some (.slice A1_1 l1_1.length c1_1) := (blk_cell BK_paB.out 1).trans rfl
  have hc_paB_2 : w18.cell? ⟨g3, 2, none⟩ = some (.slice A1_2 l1_2.length c1_2) := (blk_cell BK_paB.out 2).trans rfl
  have hc_paB_3 : w18.cell? ⟨g3, 3, none⟩ = some (.slice A1_3 l1_3.length c1_3) := (blk_cell BK_paB.out 3).trans rfl
  clear hc_x_aB_0
  have hc_x_aB_0 : w18.cell? ⟨g9, 0, none⟩ = some (.slice A9_0 l1_0.length c9_0) := (blk_cell BK_x_aB.out 0).trans rfl
  clear hc_x_aB_1
  have hc_x_aB_1 : w18.cell? ⟨g9, 1, none⟩ = some (.slice A9_1 l1_1.length c9_1) := (blk_cell BK_x_aB.out 1).trans rfl
  clear hc_x_aB_2
  have hc_x_aB_2 : w18.cell? ⟨g9, 2, none⟩ = some (.slice A9_2 l1_2.length c9_2) := (blk_cell BK_x_aB.out 2).trans rfl
  clear hc_x_aB_3
  have hc_x_aB_3 : w18.cell? ⟨g9, 3, none⟩ = some (.slice A9_3 l1_3.length c9_3) := (blk_cell BK_x_aB.out 3).trans rfl
  clear hc_paB_0
  have hc_paB_0 : w18.cell? ⟨g3, 0, none⟩ = some (.slice A1_0 l1_0.length c1_0) := (blk_cell BK_paB.out 0).trans rfl
  clear hc_paB_1
  have hc_paB_1 : w18.cell? ⟨g3, 1, none⟩ = some (.slice A1_1 l1_1.length c1_1) := (blk_cell BK_paB.out 1).trans rfl
  clear hc_paB_2
  have hc_paB_2 : w18.cell? ⟨g3, 2, none⟩ = some (.slice A1_2 l1_2.length c1_2) := (blk_cell BK_paB.out 2).trans rfl
  clear hc_paB_3
  have hc_paB_3 : w18.cell? ⟨g3, 3, none⟩ = some (.slice A1_3 l1_3.length c1_3) := (blk_cell BK_paB.out 3).trans rfl
  have F19 := Aside0.mk (Fr.drew w18)
  have HBn := Aside0.mk (below_drew1 HB.out)
  clear HB
  have HB := HBn
  clear HBn
  have G19 := Aside0.mk F19.out.1
  have HB19 := Aside0.mk HB.out.size
  go_wp2_with fail
  go_region_held3 (fun w' => w'.cell? ⟨g9, 0, none⟩ = some (.slice A9_0 l1_0.length c9_0) ∧ w'.cell? ⟨g9, 1, none⟩ = some (.slice A9_1 l1_1.length c9_1) ∧ w'.cell? ⟨g9, 2, none⟩ = some (.slice A9_2 l1_2.length c9_2) ∧ w'.cell? ⟨g9, 3, none⟩ = some (.slice A9_3 l1_3.length c9_3) ∧ w'.cell? ⟨g3, 0, none⟩ = some (.slice A1_0 l1_0.length c1_0) ∧ w'.cell? ⟨g3, 1, none⟩ = some (.slice A1_1 l1_1.length c1_1) ∧ w'.cell? ⟨g3, 2, none⟩ = some (.slice A1_2 l1_2.length c1_2) ∧ w'.cell? ⟨g3, 3, none⟩ = some (.slice A1_3 l1_3.length c1_3)) (first | go_keep | (go_split_ands; refine ⟨?_, ?_, ?_, ?_, ?_, ?_, ?_, ?_⟩ <;> first | exact pw_cell_below hq2 (by assumption) | exact pw_cell_below hq1 (by assumption))) ((first | (go_at_call 7; (with_reducible refine (laws_toCase.calls k _ _ l1_0 _ _ l1_1 _ _ l1_2 _ _ l1_3 l1_0 l1_1 l1_2 l1_3 (w18.drew) (Kd.C_below HR1_0.out HB.out) HC1_0.out (Kd.C_below HR1_1.out HB.out) HC1_1.out (Kd.C_below HR1_2.out HB.out) HC1_2.out (Kd.C_below HR1_3.out HB.out) HC1_3.out (F_toaB.out)).mono ?_); rintro e w20 ⟨v20_0, v20_1, v20_2, v20_3, rfl, hn0, hn1, hn2, hn3, hb⟩; have D20 := Aside0.mk hb; clear hb; have M20_0 := Aside0.mk hn0; clear hn0; have M20_1 := Aside0.mk hn1; clear hn1; have M20_2 := Aside0.mk hn2; clear hn2; have M20_3 := Aside0.mk hn3; clear hn3; have F20 := Aside0.mk (Fr.of_below D20.out); have HBn := Aside0.mk (below_step HB.out D20.out); clear HB; have HB := HBn; clear HBn; have G20 := Aside0.mk F20.out.1; have HB20 := Aside0.mk HB.out.size; obtain ⟨a20_0, b20_0, N20_0, H20_0⟩ := Hd.new M20_0.out (B := w.heap.size) HB19.out G20.out; have N20_0 := Aside0.mk N20_0; have H20_0 := Aside0.mk H20_0; obtain ⟨a20_1, b20_1, N20_1, H20_1⟩ := Hd.new M20_1.out (B := w.heap.size) HB19.out G20.out; have N20_1 := Aside0.mk N20_1; have H20_1 := Aside0.mk H20_1; obtain ⟨a20_2, b20_2, N20_2, H20_2⟩ := Hd.new M20_2.out (B := w.heap.size) HB19.out G20.out; have N20_2 := Aside0.mk N20_2; have H20_2 := Aside0.mk H20_2; obtain ⟨a20_3, b20_3, N20_3, H20_3⟩ := Hd.new M20_3.out (B := w.heap.size) HB19.out G20.out; have N20_3 := Aside0.mk N20_3; have H20_3 := Aside0.mk H20_3; have P20_0_1 := Aside0.mk (show ∀ k_, some k_ = (v20_0 : Value).ownBlock → ¬ some k_ = (v20_1 : Value).ownBlock from fun k_ h1 h2 => (M20_0.out.1 k_ h1.symm).1 h2); have P20_0_2 := Aside0.mk (show ∀ k_, some k_ = (v20_0 : Value).ownBlock → ¬ some k_ = (v20_2 : Value).ownBlock from fun k_ h1 h2 => (M20_0.out.1 k_ h1.symm).2.1 h2); have P20_0_3 := Aside0.mk (show ∀ k_, some k_ = (v20_0 : Value).ownBlock → ¬ some k_ = (v20_3 : Value).ownBlock from fun k_ h1 h2 => (M20_0.out.1 k_ h1.symm).2.2 h2); have P20_1_0 := Aside0.mk (show ∀ k_, some k_ = (v20_1 : Value).ownBlock → ¬ some k_ = (v20_0 : Value).ownBlock from fun k_ h1 h2 => (M20_1.out.1 k_ h1.symm).1 h2); have P20_1_2 := Aside0.mk (show ∀ k_, some k_ = (v20_1 : Value).ownBlock → ¬ some k_ = (v20_2 : Value).ownBlock from fun k_ h1 h2 => (M20_1.out.1 k_ h1.symm).2.1 h2); have P20_1_3 := Aside0.mk (show ∀ k_, some k_ = (v20_1 : Value).ownBlock → ¬ some k_ = (v20_3 : Value).ownBlock from fun k_ h1 h2 => (M20_1.out.1 k_ h1.symm).2.2 h2); have P20_2_0 := Aside0.mk (show ∀ k_, some k_ = (v20_2 : Value).ownBlock → ¬ some k_ = (v20_0 : Value).ownBlock from fun k_ h1 h2 => (M20_2.out.1 k_ h1.symm).1 h2); have P20_2_1 := Aside0.mk (show ∀ k_, some k_ = (v20_2 : Value).ownBlock → ¬ some k_ = (v20_1 : Value).ownBlock from fun k_ h1 h2 => (M20_2.out.1 k_ h1.symm).2.1 h2); have P20_2_3 := Aside0.mk (show ∀ k_, some k_ = (v20_2 : Value).ownBlock → ¬ some k_ = (v20_3 : Value).ownBlock from fun k_ h1 h2 => (M20_2.out.1 k_ h1.symm).2.2 h2); have P20_3_0 := Aside0.mk (show ∀ k_, some k_ = (v20_3 : Value).ownBlock → ¬ some k_ = (v20_0 : Value).ownBlock from fun k_ h1 h2 => (M20_3.out.1 k_ h1.symm).1 h2); have P20_3_1 := Aside0.mk (show ∀ k_, some k_ = (v20_3 : Value).ownBlock → ¬ some k_ = (v20_1 : Value).ownBlock from fun k_ h1 h2 => (M20_3.out.1 k_ h1.symm).2.1 h2); have P20_3_2 := Aside0.mk (show ∀ k_, some k_ = (v20_3 : Value).ownBlock → ¬ some k_ = (v20_2 : Value).ownBlock from fun k_ h1 h2 => (M20_3.out.1 k_ h1.symm).2.2 h2); clear M20_0 M20_1 M20_2 M20_3; obtain ⟨A20_0, c20_0, e20_0⟩ := Hd.form H20_0.out; subst e20_0; obtain ⟨A20_1, c20_1, e20_1⟩ := Hd.form H20_1.out; subst e20_1; obtain ⟨A20_2, c20_2, e20_2⟩ := Hd.form H20_2.out; subst e20_2; obtain ⟨A20_3, c20_3, e20_3⟩ := Hd.form H20_3.out; subst e20_3; have hq1 := D20.out; have H9_0n := Aside0.mk (Hd.move (Hd.move (Hd.move (Hd.move (Hd.move (Hd.move (Hd.move (Hd.move (Hd.move (H9_0.out) F12.out (.inr (Nat.zero_le _))) F13.out (.inr (Nat.zero_le _))) F14.out (by have := N9_0.out; have := NB_g0.out; have := G10.out; have := G11.out; have := G12.out; left; omega)) F15.out (.inr (Nat.zero_le _))) F16.out (.inr (Nat.zero_le _))) F17.out (.inr (Nat.zero_le _))) F18.out (.inr (Nat.zero_le _))) F19.out (.inr (Nat.zero_le _))) F20.out (.inr (Nat.zero_le _))); clear H9_0; have H9_0 := H9_0n; clear H9_0n; have H9_1n := Aside0.mk (Hd.move (Hd.move (Hd.move (Hd.move (Hd.move (Hd.move (Hd.move (Hd.move (Hd.move (H9_1.out) F12.out (.inr (Nat.zero_le _))) F13.out (.inr (Nat.zero_le _))) F14.out (by have := N9_1.out; have := NB_g0.out; have := G10.out; have := G11.out; have := G12.out; left; omega)) F15.out (.inr (Nat.zero_le _))) F16.out (.inr (Nat.zero_le _))) F17.out (.inr (Nat.zero_le _))) F18.out (.inr (Nat.zero_le _))) F19.out (.inr (Nat.zero_le _))) F20.out (.inr (Nat.zero_le _))); clear H9_1; have H9_1 := H9_1n; clear H9_1n; have H9_2n := Aside0.mk (Hd.move (Hd.move (Hd.move (Hd.move (Hd.move (Hd.move (Hd.move (Hd.move (Hd.move (H9_2.out) F12.out (.inr (Nat.zero_le _))) F13.out (.inr (Nat.zero_le _))) F14.out (by have := N9_2.out; have := NB_g0.out; have := G10.out; have := G11.out; have := G12.out; left; omega)) F15.out (.inr (Nat.zero_le _))) F16.out (.inr (Nat.zero_le _))) F17.out (.inr (Nat.zero_le _))) F18.out (.inr (Nat.zero_le _))) F19.out (.inr (Nat.zero_le _))) F20.out (.inr (Nat.zero_le _))); clear H9_2; have H9_2 := H9_2n; clear H9_2n; have H9_3n := Aside0.mk (Hd.move (Hd.move (Hd.move (Hd.move (Hd.move (Hd.move (Hd.move (Hd.move (Hd.move (H9_3.out) F12.out (.inr (Nat.zero_le _))) F13.out (.inr (Nat.zero_le _))) F14.out (by have := N9_3.out; have := NB_g0.out; have := G10.out; have := G11.out; have := G12.out; left; omega)) F15.out (.inr (Nat.zero_le _))) F16.out (.inr (Nat.zero_le _))) F17.out (.inr (Nat.zero_le _))) F18.out (.inr (Nat.zero_le _))) F19.out (.inr (Nat.zero_le _))) F20.out (.inr (Nat.zero_le _))); clear H9_3; have H9_3 := H9_3n; clear H9_3n) | (go_at_call 9; (with_reducible refine (laws_eqCase.calls k _ _ l1_0 _ _ l1_1 _ _ l1_2 _ _ l1_3 _ _ l1_0 _ _ l1_1 _ _ l1_2 _ _ l1_3 true (w20) (Hd.C H9_0.out) (Hd.cap H9_0.out) (Hd.C H9_1.out) (Hd.cap H9_1.out) (Hd.C H9_2.out) (Hd.cap H9_2.out) (Hd.C H9_3.out) (Hd.cap H9_3.out) (Hd.C H20_0.out) (Hd.cap H20_0.out) (Hd.C H20_1.out) (Hd.cap H20_1.out) (Hd.C H20_2.out) (Hd.cap H20_2.out) (Hd.C H20_3.out) (Hd.cap H20_3.out) (F_eqaB.out)).mono ?_); rintro e w21 ⟨rfl, hb⟩; have D21 := Aside0.mk hb; clear hb; have F21 := Aside0.mk (Fr.of_below D21.out); have HBn := Aside0.mk (below_step HB.out D21.out); clear HB; have HB := HBn; clear HBn; have G21 := Aside0.mk F21.out.1; have HB21 := Aside0.mk HB.out.size; have hq2 := D21.out)))
  clear hq1 hq2
  clear hc_x_aB_0 hc_x_aB_1 hc_x_aB_2 hc_x_aB_3 hc_paB_0 hc_paB_1 hc_paB_2 hc_paB_3
  have BK_x_aAn := Aside0.mk (Fr.blk (Fr.blk (Fr.blk (Fr.blk (Fr.blk (Fr.blk (BK_x_aA.out) F16.out (.inr (Nat.zero_le _))) F17.out (.inr (Nat.zero_le _))) F18.out (.inr (Nat.zero_le _))) F19.out (.inr (Nat.zero_le _))) F20.out (.inr (Nat.zero_le _))) F21.out (.inr (Nat.zero_le _)))
  clear BK_x_aA
  have BK_x_aA := BK_x_aAn
  clear BK_x_aAn
  have hc_x_aA_0 : w21.cell? ⟨g8, 0, none⟩ = some (.slice A6_0 l0_0.length c6_0) := (blk_cell BK_x_aA.out 0).trans rfl
  have hc_x_aA_1 : w21.cell? ⟨g8, 1, none⟩ = some (.slice A6_1 l0_1.length c6_1) := (blk_cell BK_x_aA.out 1).trans rfl
  have hc_x_aA_2 : w21.cell? ⟨g8, 2, none⟩ = some (.slice A6_2 l0_2.length c6_2) := (blk_cell BK_x_aA.out 2).trans rfl
  have hc_x_aA_3 : w21.cell? ⟨g8, 3, none⟩ = some (.slice A6_3 l0_3.length c6_3) := (blk_cell BK_x_aA.out 3).trans rfl
  have H6_0n := Aside0.mk (Hd.move (Hd.move (Hd.move (Hd.move (H6_0.out) F18.out (.inr (Nat.zero_le _))) F19.out (.inr (Nat.zero_le _))) F20.out (.inr (Nat.zero_le _))) F21.out (.inr (Nat.zero_le _)))
  clear H6_0
  have H6_0 := H6_0n
  clear H6_0n
  have H6_1n := Aside0.mk (Hd.move (Hd.move (Hd.move (Hd.move (H6_1.out) F18.out (.inr (Nat.zero_le _))) F19.out (.inr (Nat.zero_le _))) F20.out (.inr (Nat.zero_le _))) F21.out (.inr (Nat.zero_le _)))
  clear H6_1
  have H6_1 := H6_1n
  clear H6_1n
  have H6_2n := Aside0.mk (Hd.move (Hd.move (Hd.move (Hd.move (H6_2.out) F18.out (.inr (Nat.zero_le _))) F19.out (.inr (Nat.zero_le _))) F20.out (.inr (Nat.zero_le _))) F21.out (.inr (Nat.zero_le _)))
  clear H6_2
  have H6_2 := H6_2n
  clear H6_2n
  have H6_3n := Aside0.mk (Hd.move (Hd.move (Hd.move (Hd.move (H6_3.out) F18.out (.inr (Nat.zero_le _))) F19.out (.inr (Nat.zero_le _))) F20.out (.inr (Nat.zero_le _))) F21.out (.inr (Nat.zero_le _)))
  clear H6_3
  have H6_3 := H6_3n
  clear H6_3n
  go_wp2_with (first | (go_at_call 10; (with_reducible refine (laws_markCase.calls k (fun k_ => some k_ = (.slice A6_0 l0_0.length c6_0 : Value).ownBlock) _ l0_0 (fun k_ => some k_ = (.slice A6_1 l0_1.length c6_1 : Value).ownBlock) _ l0_1 (fun k_ => some k_ = (.slice A6_2 l0_2.length c6_2 : Value).ownBlock) _ l0_2 (fun k_ => some k_ = (.slice A6_3 l0_3.length c6_3 : Value).ownBlock) _ l0_3 (1) k0 ml0_0 ml0_1 ml0_2 ml0_3 w (w21) HB.out (Hd.tight H6_0.out rfl) P6_0_1.out P6_0_2.out P6_0_3.out (Hd.tight H6_1.out rfl) P6_1_0.out P6_1_2.out P6_1_3.out (Hd.tight H6_2.out rfl) P6_2_0.out P6_2_1.out P6_2_3.out (Hd.tight H6_3.out rfl) P6_3_0.out P6_3_1.out P6_3_2.out (F_mkaA.out)).mono ?_); rintro e w22 ⟨rfl, hm0, hm1, hm2, hm3, hb, hk⟩; have K22 := Aside0.mk hk; have KB22 := Aside0.mk hb; have M22_0 := Aside0.mk hm0; have M22_1 := Aside0.mk hm1; have M22_2 := Aside0.mk hm2; have M22_3 := Aside0.mk hm3; clear hb hk hm0 hm1 hm2 hm3; have F22 := Aside0.mk (Fr.of_kept K22.out (p := w5.heap.size) (q := w6.heap.size) (fun k_ hk => hk.elim (fun hk => (by have := Hd.within H6_0.out k_ hk; have := N6_0.out; omega)) (fun hk => hk.elim (fun hk => (by have := Hd.within H6_1.out k_ hk; have := N6_1.out; omega)) (fun hk => hk.elim (fun hk => (by have := Hd.within H6_2.out k_ hk; have := N6_2.out; omega)) (fun hk => (by have := Hd.within H6_3.out k_ hk; have := N6_3.out; omega)))))); have HBn := Aside0.mk (KB22.out); clear HB; have HB := HBn; clear HBn; have G22 := Aside0.mk F22.out.1; have HB22 := Aside0.mk HB.out.size; clear H6_0 H6_1 H6_2 H6_3 M22_0 M22_1 M22_2 M22_3; have BK_x_aBn := Aside0.mk (Fr.blk (Fr.blk (Fr.blk (Fr.blk (BK_x_aB.out) F19.out (.inr (Nat.zero_le _))) F20.out (.inr (Nat.zero_le _))) F21.out (.inr (Nat.zero_le _))) F22.out (by have := NB_x_aB.out; have := G7.out; have := G8.out; have := G9.out; right; omega)); clear BK_x_aB; have BK_x_aB := BK_x_aBn; clear BK_x_aBn; have hc_x_aB_0 : w22.cell? ⟨g9, 0, none⟩ = some (.slice A9_0 l1_0.length c9_0) := (blk_cell BK_x_aB.out 0).trans rfl; have hc_x_aB_1 : w22.cell? ⟨g9, 1, none⟩ = some (.slice A9_1 l1_1.length c9_1) := (blk_cell BK_x_aB.out 1).trans rfl; have hc_x_aB_2 : w22.cell? ⟨g9, 2, none⟩ = some (.slice A9_2 l1_2.length c9_2) := (blk_cell BK_x_aB.out 2).trans rfl; have hc_x_aB_3 : w22.cell? ⟨g9, 3, none⟩ = some (.slice A9_3 l1_3.length c9_3) := (blk_cell BK_x_aB.out 3).trans rfl))
  have H9_0n := Aside0.mk (Hd.move (Hd.move (H9_0.out) F21.out (.inr (Nat.zero_le _))) F22.out (by have := N9_0.out; have := G7.out; have := G8.out; right; omega))
  clear H9_0
  have H9_0 := H9_0n
  clear H9_0n
  have H9_1n := Aside0.mk (Hd.move (Hd.move (H9_1.out) F21.out (.inr (Nat.zero_le _))) F22.out (by have := N9_1.out; have := G7.out; have := G8.out; right; omega))
  clear H9_1
  have H9_1 := H9_1n
  clear H9_1n
  have H9_2n := Aside0.mk (Hd.move (Hd.move (H9_2.out) F21.out (.inr (Nat.zero_le _))) F22.out (by have := N9_2.out; have := G7.out; have := G8.out; right; omega))
  clear H9_2
  have H9_2 := H9_2n
  clear H9_2n
  have H9_3n := Aside0.mk (Hd.move (Hd.move (H9_3.out) F21.out (.inr (Nat.zero_le _))) F22.out (by have := N9_3.out; have := G7.out; have := G8.out; right; omega))
  clear H9_3
  have H9_3 := H9_3n
  clear H9_3n
  go_wp2_with (first | (go_at_call 10; (with_reducible refine (laws_markCase.calls k (fun k_ => some k_ = (.slice A9_0 l1_0.length c9_0 : Value).ownBlock) _ l1_0 (fun k_ => some k_ = (.slice A9_1 l1_1.length c9_1 : Value).ownBlock) _ l1_1 (fun k_ => some k_ = (.slice A9_2 l1_2.length c9_2 : Value).ownBlock) _ l1_2 (fun k_ => some k_ = (.slice A9_3 l1_3.length c9_3 : Value).ownBlock) _ l1_3 (k0) k1 ml1_0 ml1_1 ml1_2 ml1_3 w (w22) HB.out (Hd.tight H9_0.out rfl) P9_0_1.out P9_0_2.out P9_0_3.out (Hd.tight H9_1.out rfl) P9_1_0.out P9_1_2.out P9_1_3.out (Hd.tight H9_2.out rfl) P9_2_0.out P9_2_1.out P9_2_3.out (Hd.tight H9_3.out rfl) P9_3_0.out P9_3_1.out P9_3_2.out (F_mkaB.out)).mono ?_); rintro e w23 ⟨rfl, hm0, hm1, hm2, hm3, hb, hk⟩; have K23 := Aside0.mk hk; have KB23 := Aside0.mk hb; have M23_0 := Aside0.mk hm0; have M23_1 := Aside0.mk hm1; have M23_2 := Aside0.mk hm2; have M23_3 := Aside0.mk hm3; clear hb hk hm0 hm1 hm2 hm3; have F23 := Aside0.mk (Fr.of_kept K23.out (p := w8.heap.size) (q := w9.heap.size) (fun k_ hk => hk.elim (fun hk => (by have := Hd.within H9_0.out k_ hk; have := N9_0.out; omega)) (fun hk => hk.elim (fun hk => (by have := Hd.within H9_1.out k_ hk; have := N9_1.out; omega)) (fun hk => hk.elim (fun hk => (by have := Hd.within H9_2.out k_ hk; have := N9_2.out; omega)) (fun hk => (by have := Hd.within H9_3.out k_ hk; have := N9_3.out; omega)))))); have HBn := Aside0.mk (KB23.out); clear HB; have HB := HBn; clear HBn; have G23 := Aside0.mk F23.out.1; have HB23 := Aside0.mk HB.out.size; clear H9_0 H9_1 H9_2 H9_3 M23_0 M23_1 M23_2 M23_3; have BK_g0n := Aside0.mk (Fr.blk (Fr.blk (Fr.blk (Fr.blk (Fr.blk (Fr.blk (Fr.blk (Fr.blk (Fr.blk (BK_g0.out) F15.out (.inr (Nat.zero_le _))) F16.out (.inr (Nat.zero_le _))) F17.out (.inr (Nat.zero_le _))) F18.out (.inr (Nat.zero_le _))) F19.out (.inr (Nat.zero_le _))) F20.out (.inr (Nat.zero_le _))) F21.out (.inr (Nat.zero_le _))) F22.out (by have := NB_g0.out; have := G7.out; have := G8.out; have := G9.out; have := G10.out; have := G11.out; have := G12.out; right; omega)) F23.out (by have := NB_g0.out; have := G10.out; have := G11.out; have := G12.out; right; omega)); clear BK_g0; have BK_g0 := BK_g0n; clear BK_g0n; have hc_g0_0 : w23.cell? ⟨g10, 0, none⟩ = some (.slice A12_0 R0.length c12_0) := (blk_cell BK_g0.out 0).trans rfl; have hc_g0_1 : w23.cell? ⟨g10, 1, none⟩ = some (.slice A12_1 R1.length c12_1) := (blk_cell BK_g0.out 1).trans rfl; have hc_g0_2 : w23.cell? ⟨g10, 2, none⟩ = some (.slice A12_2 R2.length c12_2) := (blk_cell BK_g0.out 2).trans rfl; have hc_g0_3 : w23.cell? ⟨g10, 3, none⟩ = some (.slice A12_3 R3.length c12_3) := (blk_cell BK_g0.out 3).trans rfl; have BK_w0n := Aside0.mk (Fr.blk (Fr.blk (Fr.blk (Fr.blk (Fr.blk (Fr.blk (Fr.blk (Fr.blk (Fr.blk (Fr.blk (BK_w0.out) F14.out (by have := NB_w0.out; have := NB_g0.out; have := G6.out; have := G7.out; have := G8.out; have := G9.out; have := G10.out; have := G11.out; have := G12.out; left; omega)) F15.out (.inr (Nat.zero_le _))) F16.out (.inr (Nat.zero_le _))) F17.out (.inr (Nat.zero_le _))) F18.out (.inr (Nat.zero_le _))) F19.out (.inr (Nat.zero_le _))) F20.out (.inr (Nat.zero_le _))) F21.out (.inr (Nat.zero_le _))) F22.out (by have := NB_w0.out; left; omega)) F23.out (by have := NB_w0.out; have := G6.out; have := G7.out; have := G8.out; left; omega)); clear BK_w0; have BK_w0 := BK_w0n; clear BK_w0n; have hc_w0_0 : w23.cell? ⟨g5, 0, none⟩ = some (.slice A5_0 R0.length c5_0) := (blk_cell BK_w0.out 0).trans rfl; have hc_w0_1 : w23.cell? ⟨g5, 1, none⟩ = some (.slice A5_1 R1.length c5_1) := (blk_cell BK_w0.out 1).trans rfl; have hc_w0_2 : w23.cell? ⟨g5, 2, none⟩ = some (.slice A5_2 R2.length c5_2) := (blk_cell BK_w0.out 2).trans rfl; have hc_w0_3 : w23.cell? ⟨g5, 3, none⟩ = some (.slice A5_3 R3.length c5_3) := (blk_cell BK_w0.out 3).trans rfl))
  have H12_0n := Aside0.mk (Hd.move (Hd.move (Hd.move (Hd.move (Hd.move (Hd.move (Hd.move (Hd.move (Hd.move (H12_0.out) F15.out (.inr (Nat.zero_le _))) F16.out (.inr (Nat.zero_le _))) F17.out (.inr (Nat.zero_le _))) F18.out (.inr (Nat.zero_le _))) F19.out (.inr (Nat.zero_le _))) F20.out (.inr (Nat.zero_le _))) F21.out (.inr (Nat.zero_le _))) F22.out (by have := N12_0.out; have := G7.out; have := G8.out; have := G9.out; have := G10.out; have := G11.out; right; omega)) F23.out (by have := N12_0.out; have := G10.out; have := G11.out; right; omega))
  clear H12_0
  have H12_0 := H12_0n
  clear H12_0n
  have H12_1n := Aside0.mk (Hd.move (Hd.move (Hd.move (Hd.move (Hd.move (Hd.move (Hd.move (Hd.move (Hd.move (H12_1.out) F15.out (.inr (Nat.zero_le _))) F16.out (.inr (Nat.zero_le _))) F17.out (.inr (Nat.zero_le _))) F18.out (.inr (Nat.zero_le _))) F19.out (.inr (Nat.zero_le _))) F20.out (.inr (Nat.zero_le _))) F21.out (.inr (Nat.zero_le _))) F22.out (by have := N12_1.out; have := G7.out; have := G8.out; have := G9.out; have := G10.out; have := G11.out; right; omega)) F23.out (by have := N12_1.out; have := G10.out; have := G11.out; right; omega))
  clear H12_1
  have H12_1 := H12_1n
  clear H12_1n
  have H12_2n := Aside0.mk (Hd.move (Hd.move (Hd.move (Hd.move (Hd.move (Hd.move (Hd.move (Hd.move (Hd.move (H12_2.out) F15.out (.inr (Nat.zero_le _))) F16.out (.inr (Nat.zero_le _))) F17.out (.inr (Nat.zero_le _))) F18.out (.inr (Nat.zero_le _))) F19.out (.inr (Nat.zero_le _))) F20.out (.inr (Nat.zero_le _))) F21.out (.inr (Nat.zero_le _))) F22.out (by have := N12_2.out; have := G7.out; have := G8.out; have := G9.out; have := G10.out; have := G11.out; right; omega)) F23.out (by have := N12_2.out; have := G10.out; have := G11.out; right; omega))
  clear H12_2
  have H12_2 := H12_2n
  clear H12_2n
  have H12_3n := Aside0.mk (Hd.move (Hd.move (Hd.move (Hd.move (Hd.move (Hd.move (Hd.move (Hd.move (Hd.move (H12_3.out) F15.out (.inr (Nat.zero_le _))) F16.out (.inr (Nat.zero_le _))) F17.out (.inr (Nat.zero_le _))) F18.out (.inr (Nat.zero_le _))) F19.out (.inr (Nat.zero_le _))) F20.out (.inr (Nat.zero_le _))) F21.out (.inr (Nat.zero_le _))) F22.out (by have := N12_3.out; have := G7.out; have := G8.out; have := G9.out; have := G10.out; have := G11.out; right; omega)) F23.out (by have := N12_3.out; have := G10.out; have := G11.out; right; omega))
  clear H12_3
  have H12_3 := H12_3n
  clear H12_3n
  have H5_0n := Aside0.mk (Hd.move (Hd.move (Hd.move (Hd.move (Hd.move (Hd.move (Hd.move (Hd.move (Hd.move (H5_0.out) F15.out (.inr (Nat.zero_le _))) F16.out (.inr (Nat.zero_le _))) F17.out (.inr (Nat.zero_le _))) F18.out (.inr (Nat.zero_le _))) F19.out (.inr (Nat.zero_le _))) F20.out (.inr (Nat.zero_le _))) F21.out (.inr (Nat.zero_le _))) F22.out (by have := N5_0.out; left; omega)) F23.out (by have := N5_0.out; have := G6.out; have := G7.out; have := G8.out; left; omega))
  clear H5_0
  have H5_0 := H5_0n
  clear H5_0n
  have H5_1n := Aside0.mk (Hd.move (Hd.move (Hd.move (Hd.move (Hd.move (Hd.move (Hd.move (Hd.move (Hd.move (H5_1.out) F15.out (.inr (Nat.zero_le _))) F16.out (.inr (Nat.zero_le _))) F17.out (.inr (Nat.zero_le _))) F18.out (.inr (Nat.zero_le _))) F19.out (.inr (Nat.zero_le _))) F20.out (.inr (Nat.zero_le _))) F21.out (.inr (Nat.zero_le _))) F22.out (by have := N5_1.out; left; omega)) F23.out (by have := N5_1.out; have := G6.out; have := G7.out; have := G8.out; left; omega))
  clear H5_1
  have H5_1 := H5_1n
  clear H5_1n
  have H5_2n := Aside0.mk (Hd.move (Hd.move (Hd.move (Hd.move (Hd.move (Hd.move (Hd.move (Hd.move (Hd.move (H5_2.out) F15.out (.inr (Nat.zero_le _))) F16.out (.inr (Nat.zero_le _))) F17.out (.inr (Nat.zero_le _))) F18.out (.inr (Nat.zero_le _))) F19.out (.inr (Nat.zero_le _))) F20.out (.inr (Nat.zero_le _))) F21.out (.inr (Nat.zero_le _))) F22.out (by have := N5_2.out; left; omega)) F23.out (by have := N5_2.out; have := G6.out; have := G7.out; have := G8.out; left; omega))
  clear H5_2
  have H5_2 := H5_2n
  clear H5_2n
  have H5_3n := Aside0.mk (Hd.move (Hd.move (Hd.move (Hd.move (Hd.move (Hd.move (Hd.move (Hd.move (Hd.move (H5_3.out) F15.out (.inr (Nat.zero_le _))) F16.out (.inr (Nat.zero_le _))) F17.out (.inr (Nat.zero_le _))) F18.out (.inr (Nat.zero_le _))) F19.out (.inr (Nat.zero_le _))) F20.out (.inr (Nat.zero_le _))) F21.out (.inr (Nat.zero_le _))) F22.out (by have := N5_3.out; left; omega)) F23.out (by have := N5_3.out; have := G6.out; have := G7.out; have := G8.out; left; omega))
  clear H5_3
  have H5_3 := H5_3n
  clear H5_3n
  go_wp2_with (first | (go_at_call 9; (with_reducible refine (laws_eqCase.calls k _ _ R0 _ _ R1 _ _ R2 _ _ R3 _ _ R0 _ _ R1 _ _ R2 _ _ R3 true (w23) (Hd.C H12_0.out) (Hd.cap H12_0.out) (Hd.C H12_1.out) (Hd.cap H12_1.out) (Hd.C H12_2.out) (Hd.cap H12_2.out) (Hd.C H12_3.out) (Hd.cap H12_3.out) (Hd.C H5_0.out) (Hd.cap H5_0.out) (Hd.C H5_1.out) (Hd.cap H5_1.out) (Hd.C H5_2.out) (Hd.cap H5_2.out) (Hd.C H5_3.out) (Hd.cap H5_3.out) (F_eqR.out)).mono ?_); rintro e w24 ⟨rfl, hb⟩; have D24 := Aside0.mk hb; clear hb; have F24 := Aside0.mk (Fr.of_below D24.out); have HBn := Aside0.mk (below_step HB.out D24.out); clear HB; have HB := HBn; clear HBn; have G24 := Aside0.mk F24.out.1; have HB24 := Aside0.mk HB.out.size; have BK_g0n := Aside0.mk (Fr.blk (BK_g0.out) F24.out (.inr (Nat.zero_le _))); clear BK_g0; have BK_g0 := BK_g0n; clear BK_g0n; clear hc_g0_0; have hc_g0_0 : w24.cell? ⟨g10, 0, none⟩ = some (.slice A12_0 R0.length c12_0) := (blk_cell BK_g0.out 0).trans rfl; clear hc_g0_1; have hc_g0_1 : w24.cell? ⟨g10, 1, none⟩ = some (.slice A12_1 R1.length c12_1) := (blk_cell BK_g0.out 1).trans rfl; clear hc_g0_2; have hc_g0_2 : w24.cell? ⟨g10, 2, none⟩ = some (.slice A12_2 R2.length c12_2) := (blk_cell BK_g0.out 2).trans rfl; clear hc_g0_3; have hc_g0_3 : w24.cell? ⟨g10, 3, none⟩ = some (.slice A12_3 R3.length c12_3) := (blk_cell BK_g0.out 3).trans rfl))
  have H12_0n := Aside0.mk (Hd.move (H12_0.out) F24.out (.inr (Nat.zero_le _)))
  clear H12_0
  have H12_0 := H12_0n
  clear H12_0n
  have H12_1n := Aside0.mk (Hd.move (H12_1.out) F24.out (.inr (Nat.zero_le _)))
  clear H12_1
  have H12_1 := H12_1n
  clear H12_1n
  have H12_2n := Aside0.mk (Hd.move (H12_2.out) F24.out (.inr (Nat.zero_le _)))
  clear H12_2
  have H12_2 := H12_2n
  clear H12_2n
  have H12_3n := Aside0.mk (Hd.move (H12_3.out) F24.out (.inr (Nat.zero_le _)))
  clear H12_3
  have H12_3 := H12_3n
  clear H12_3n
  go_wp2_with (first | (go_at_call 10; (with_reducible refine (laws_markCase.calls k (fun k_ => some k_ = (.slice A12_0 R0.length c12_0 : Value).ownBlock) _ R0 (fun k_ => some k_ = (.slice A12_1 R1.length c12_1 : Value).ownBlock) _ R1 (fun k_ => some k_ = (.slice A12_2 R2.length c12_2 : Value).ownBlock) _ R2 (fun k_ => some k_ = (.slice A12_3 R3.length c12_3 : Value).ownBlock) _ R3 (1) m mR0 mR1 mR2 mR3 w (w24) HB.out (Hd.tight H12_0.out rfl) P12_0_1.out P12_0_2.out P12_0_3.out (Hd.tight H12_1.out rfl) P12_1_0.out P12_1_2.out P12_1_3.out (Hd.tight H12_2.out rfl) P12_2_0.out P12_2_1.out P12_2_3.out (Hd.tight H12_3.out rfl) P12_3_0.out P12_3_1.out P12_3_2.out (F_mkR.out)).mono ?_); rintro e w25 ⟨rfl, hm0, hm1, hm2, hm3, hb, hk⟩; have K25 := Aside0.mk hk; have KB25 := Aside0.mk hb; have M25_0 := Aside0.mk hm0; have M25_1 := Aside0.mk hm1; have M25_2 := Aside0.mk hm2; have M25_3 := Aside0.mk hm3; clear hb hk hm0 hm1 hm2 hm3; have F25 := Aside0.mk (Fr.of_kept K25.out (p := w11.heap.size) (q := w12.heap.size) (fun k_ hk => hk.elim (fun hk => (by have := Hd.within H12_0.out k_ hk; have := N12_0.out; omega)) (fun hk => hk.elim (fun hk => (by have := Hd.within H12_1.out k_ hk; have := N12_1.out; omega)) (fun hk => hk.elim (fun hk => (by have := Hd.within H12_2.out k_ hk; have := N12_2.out; omega)) (fun hk => (by have := Hd.within H12_3.out k_ hk; have := N12_3.out; omega)))))); have HBn := Aside0.mk (KB25.out); clear HB; have HB := HBn; clear HBn; have G25 := Aside0.mk F25.out.1; have HB25 := Aside0.mk HB.out.size; have H12_0n := Aside0.mk (show Hd (Kd.int .i64) 3 w25 w.heap.size a12_0 b12_0 (.slice A12_0 mR0.length c12_0) mR0 from by rw [L_lnR0.out]; exact Hd.marked H12_0.out rfl M25_0.out); clear H12_0 M25_0; have H12_0 := H12_0n; clear H12_0n; have H12_1n := Aside0.mk (show Hd (Kd.int .i64) 3 w25 w.heap.size a12_1 b12_1 (.slice A12_1 mR1.length c12_1) mR1 from by rw [L_lnR1.out]; exact Hd.marked H12_1.out rfl M25_1.out); clear H12_1 M25_1; have H12_1 := H12_1n; clear H12_1n; have H12_2n := Aside0.mk (show Hd (Kd.int .i64) 3 w25 w.heap.size a12_2 b12_2 (.slice A12_2 mR2.length c12_2) mR2 from by rw [L_lnR2.out]; exact Hd.marked H12_2.out rfl M25_2.out); clear H12_2 M25_2; have H12_2 := H12_2n; clear H12_2n; have H12_3n := Aside0.mk (show Hd (Kd.int .i64) 3 w25 w.heap.size a12_3 b12_3 (.slice A12_3 mR3.length c12_3) mR3 from by rw [L_lnR3.out]; exact Hd.marked H12_3.out rfl M25_3.out); clear H12_3 M25_3; have H12_3 := H12_3n; clear H12_3n; have BK_g0n := Aside0.mk (Fr.blk (BK_g0.out) F25.out (by have := NB_g0.out; right; omega)); clear BK_g0; have BK_g0 := BK_g0n; clear BK_g0n; clear hc_g0_0; have hc_g0_0 : w25.cell? ⟨g10, 0, none⟩ = some (.slice A12_0 R0.length c12_0) := (blk_cell BK_g0.out 0).trans rfl; clear hc_g0_1; have hc_g0_1 : w25.cell? ⟨g10, 1, none⟩ = some (.slice A12_1 R1.length c12_1) := (blk_cell BK_g0.out 1).trans rfl; clear hc_g0_2; have hc_g0_2 : w25.cell? ⟨g10, 2, none⟩ = some (.slice A12_2 R2.length c12_2) := (blk_cell BK_g0.out 2).trans rfl; clear hc_g0_3; have hc_g0_3 : w25.cell? ⟨g10, 3, none⟩ = some (.slice A12_3 R3.length c12_3) := (blk_cell BK_g0.out 3).trans rfl))
  have KC26 := Aside0.mk (laws_heldCase.calls k _ _ mR0 _ _ mR1 _ _ mR2 _ _ mR3 (1) m (w25) (Hd.C H12_0.out) (Hd.cap H12_0.out) (Hd.C H12_1.out) (Hd.cap H12_1.out) (Hd.C H12_2.out) (Hd.cap H12_2.out) (Hd.C H12_3.out) (Hd.cap H12_3.out) (F_held.out))
  rw [L_lnR0.out, L_lnR1.out, L_lnR2.out, L_lnR3.out] at KC26
  go_wp2_with (first | (go_at_call 11; (with_reducible refine (KC26.out).mono ?_); rintro e w26 ⟨rfl, hb⟩; have D26 := Aside0.mk hb; clear hb; have F26 := Aside0.mk (Fr.of_below D26.out); have HBn := Aside0.mk (below_step HB.out D26.out); clear HB; have HB := HBn; clear HBn; have G26 := Aside0.mk F26.out.1; have HB26 := Aside0.mk HB.out.size; have BK_paAn := Aside0.mk (Fr.blk (Fr.blk (Fr.blk (Fr.blk (Fr.blk (Fr.blk (Fr.blk (Fr.blk (Fr.blk (Fr.blk (Fr.blk (BK_paA.out) F16.out (.inr (Nat.zero_le _))) F17.out (.inr (Nat.zero_le _))) F18.out (.inr (Nat.zero_le _))) F19.out (.inr (Nat.zero_le _))) F20.out (.inr (Nat.zero_le _))) F21.out (.inr (Nat.zero_le _))) F22.out (by have := NB_paA.out; have := G2.out; have := G3.out; have := G4.out; have := G5.out; left; omega)) F23.out (by have := NB_paA.out; have := G2.out; have := G3.out; have := G4.out; have := G5.out; have := G6.out; have := G7.out; have := G8.out; left; omega)) F24.out (.inr (Nat.zero_le _))) F25.out (by have := NB_paA.out; have := G2.out; have := G3.out; have := G4.out; have := G5.out; have := G6.out; have := G7.out; have := G8.out; have := G9.out; have := G10.out; have := G11.out; left; omega)) F26.out (.inr (Nat.zero_le _))); clear BK_paA; have BK_paA := BK_paAn; clear BK_paAn; have hc_paA_0 : w26.cell? ⟨g2, 0, none⟩ = some (.slice A0_0 l0_0.length c0_0) := (blk_cell BK_paA.out 0).trans rfl; have hc_paA_1 : w26.cell? ⟨g2, 1, none⟩ = some (.slice A0_1 l0_1.length c0_1) := (blk_cell BK_paA.out 1).trans rfl; have hc_paA_2 : w26.cell? ⟨g2, 2, none⟩ = some (.slice A0_2 l0_2.length c0_2) := (blk_cell BK_paA.out 2).trans rfl; have hc_paA_3 : w26.cell? ⟨g2, 3, none⟩ = some (.slice A0_3 l0_3.length c0_3) := (blk_cell BK_paA.out 3).trans rfl))
  clear hc_x_aA_0 hc_x_aA_1 hc_x_aA_2 hc_x_aA_3 hc_x_aB_0 hc_x_aB_1 hc_x_aB_2 hc_x_aB_3 hc_g0_0 hc_g0_1 hc_g0_2 hc_g0_3 hc_w0_0 hc_w0_1 hc_w0_2 hc_w0_3 hc_paA_0 hc_paA_1 hc_paA_2 hc_paA_3
  have BK_paBn := Aside0.mk (Fr.blk (Fr.blk (Fr.blk (Fr.blk (Fr.blk (Fr.blk (Fr.blk (Fr.blk (BK_paB.out) F19.out (.inr (Nat.zero_le _))) F20.out (.inr (Nat.zero_le _))) F21.out (.inr (Nat.zero_le _))) F22.out (by have := NB_paB.out; have := G3.out; have := G4.out; have := G5.out; left; omega)) F23.out (by have := NB_paB.out; have := G3.out; have := G4.out; have := G5.out; have := G6.out; have := G7.out; have := G8.out; left; omega)) F24.out (.inr (Nat.zero_le _))) F25.out (by have := NB_paB.out; have := G3.out; have := G4.out; have := G5.out; have := G6.out; have := G7.out; have := G8.out; have := G9.out; have := G10.out; have := G11.out; left; omega)) F26.out (.inr (Nat.zero_le _)))
  clear BK_paB
  have BK_paB := BK_paBn
  clear BK_paBn
  refine start_ (n := 11) (S := fun W_ => W_.heap[g2]? = some (.cells #[.slice A0_0 l0_0.length c0_0, .slice A0_1 l0_1.length c0_1, .slice A0_2 l0_2.length c0_2, .slice A0_3 l0_3.length c0_3] 24 (0, 0)) ∧ W_.heap[g3]? = some (.cells #[.slice A1_0 l1_0.length c1_0, .slice A1_1 l1_1.length c1_1, .slice A1_2 l1_2.length c1_2, .slice A1_3 l1_3.length c1_3] 24 (0, 0))) (ds := [9]) #[false, false, false, false, false, false, false, false, false, false, false] (by kernel_rfl) rfl rfl ⟨BK_paA.out, BK_paB.out⟩ (fun hHeld => ?_); refine with_tabW laws_FnExactJoinCases.tab31 laws_FnExactJoinCases.bits31 (fun HT_ HW_ => ?_)
  refine take_ (i := 0) (N := some 95) (v := ?_) (a' := ?_) #[true, false, false, false, false, false, false, false, false, false, false] rfl rfl (take_ofW HT_.out HW_.out (by kernel_rfl)) (fun _ _ _ h => h) (Or.inl ⟨by rfl, ?_⟩) hHeld ?_ ?_
  rotate_left
  · rintro w' ⟨s0, s1⟩
    have s0_ := (blk_cell s0 0).trans (show _ = some (.slice A0_0 l0_0.length c0_0 : Value) from rfl)
    have s1_ := (blk_cell s0 1).trans (show _ = some (.slice A0_1 l0_1.length c0_1 : Value) from rfl)
    have s2_ := (blk_cell s0 2).trans (show _ = some (.slice A0_2 l0_2.length c0_2 : Value) from rfl)
    have s3_ := (blk_cell s0 3).trans (show _ = some (.slice A0_3 l0_3.length c0_3 : Value) from rfl)
    go_simp
    (try with_reducible rfl)
  rotate_left
  · simp only [Act.put, List.setIfInBounds_toArray, List.set_cons_zero, List.set_cons_succ, i64_w, i32_w]
    rfl
  refine take_ (i := 2) (N := some 97) (v := ?_) (a' := ?_) #[true, false, true, false, false, false, false, false, false, false, false] rfl rfl (take_ofW HT_.out HW_.out (by kernel_rfl)) (fun _ _ _ h => h) (Or.inl ⟨by rfl, ?_⟩) hHeld ?_ ?_
  rotate_left
  · rintro w' ⟨s0, s1⟩
    have s0_ := (blk_cell s1 0).trans (show _ = some (.slice A1_0 l1_0.length c1_0 : Value) from rfl)
    have s1_ := (blk_cell s1 1).trans (show _ = some (.slice A1_1 l1_1.length c1_1 : Value) from rfl)
    have s2_ := (blk_cell s1 2).trans (show _ = some (.slice A1_2 l1_2.length c1_2 : Value) from rfl)
    have s3_ := (blk_cell s1 3).trans (show _ = some (.slice A1_3 l1_3.length c1_3 : Value) from rfl)
    go_simp
    (try with_reducible rfl)
  rotate_left
  · simp only [Act.put, List.setIfInBounds_toArray, List.set_cons_zero, List.set_cons_succ, i64_w, i32_w]
    rfl
  have SXX := Aside0.mk (show ∀ W' : World, Below w26.drew.heap.size w26.drew W' → (fun W_ => W_.heap[g2]? = some (.cells #[.slice A0_0 l0_0.length c0_0, .slice A0_1 l0_1.length c0_1, .slice A0_2 l0_2.length c0_2, .slice A0_3 l0_3.length c0_3] 24 (0, 0)) ∧ W_.heap[g3]? = some (.cells #[.slice A1_0 l1_0.length c1_0, .slice A1_1 l1_1.length c1_1, .slice A1_2 l1_2.length c1_2, .slice A1_3 l1_3.length c1_3] 24 (0, 0))) W' from fun W' hb => ⟨(hb.block g2 (blk_lt (show w26.drew.heap[g2]? = _ from BK_paA.out))).trans BK_paA.out, (hb.block g3 (blk_lt (show w26.drew.heap[g3]? = _ from BK_paB.out))).trans BK_paB.out⟩)
  have HBD := Aside0.mk (below_drew1 HB.out)
  refine join_ 2 #[true, true, true, true, true, true, true, true, true, false, false] (fun s : Value × Value × Value × Value × Value × Value × Value × Value × Value × Value × Value × Value × Nat => [(96, .agg #[s.1, s.2.1, s.2.2.1, s.2.2.2.1]), (98, .agg #[s.2.2.2.2.1, s.2.2.2.2.2.1, s.2.2.2.2.2.2.1, s.2.2.2.2.2.2.2.1]), (99, .tuple #[.agg #[s.2.2.2.2.2.2.2.2.1, s.2.2.2.2.2.2.2.2.2.1, s.2.2.2.2.2.2.2.2.2.2.1, s.2.2.2.2.2.2.2.2.2.2.2.1], .bool b]), (94, .tuple #[.agg #[s.2.2.2.2.2.2.2.2.1, s.2.2.2.2.2.2.2.2.2.1, s.2.2.2.2.2.2.2.2.2.2.1, s.2.2.2.2.2.2.2.2.2.2.2.1], .bool b]), (100, .agg #[s.2.2.2.2.2.2.2.2.1, s.2.2.2.2.2.2.2.2.2.1, s.2.2.2.2.2.2.2.2.2.2.1, s.2.2.2.2.2.2.2.2.2.2.2.1]), (101, .bool b), (15, .pointer (some ⟨s.2.2.2.2.2.2.2.2.2.2.2.2, 0, none⟩))]) (fun s W_ => Below w26.drew.heap.size w26.drew W_ ∧ Kd.R (Kd.int .i64) 3 W_ w26.heap.size (fun k_ => some k_ ≠ (s.2.2.2.2.2.2.2.2.2.1 : Value).ownBlock ∧ some k_ ≠ (s.2.2.2.2.2.2.2.2.2.2.1 : Value).ownBlock ∧ some k_ ≠ (s.2.2.2.2.2.2.2.2.2.2.2.1 : Value).ownBlock) s.2.2.2.2.2.2.2.2.1 R0 ∧ Kd.R (Kd.int .i64) 3 W_ w26.heap.size (fun k_ => some k_ ≠ (s.2.2.2.2.2.2.2.2.1 : Value).ownBlock ∧ some k_ ≠ (s.2.2.2.2.2.2.2.2.2.2.1 : Value).ownBlock ∧ some k_ ≠ (s.2.2.2.2.2.2.2.2.2.2.2.1 : Value).ownBlock) s.2.2.2.2.2.2.2.2.2.1 R1 ∧ Kd.R (Kd.int .i64) 3 W_ w26.heap.size (fun k_ => some k_ ≠ (s.2.2.2.2.2.2.2.2.1 : Value).ownBlock ∧ some k_ ≠ (s.2.2.2.2.2.2.2.2.2.1 : Value).ownBlock ∧ some k_ ≠ (s.2.2.2.2.2.2.2.2.2.2.2.1 : Value).ownBlock) s.2.2.2.2.2.2.2.2.2.2.1 R2 ∧ Kd.R (Kd.int .i64) 3 W_ w26.heap.size (fun k_ => some k_ ≠ (s.2.2.2.2.2.2.2.2.1 : Value).ownBlock ∧ some k_ ≠ (s.2.2.2.2.2.2.2.2.2.1 : Value).ownBlock ∧ some k_ ≠ (s.2.2.2.2.2.2.2.2.2.2.1 : Value).ownBlock) s.2.2.2.2.2.2.2.2.2.2.2.1 R3 ∧ W_.heap[s.2.2.2.2.2.2.2.2.2.2.2.2]? = some (.cells #[.slice none 0 0, .slice none 0 0, .slice none 0 0, .slice none 0 0] 26 (0, 0)) ∧ w26.heap.size ≤ s.2.2.2.2.2.2.2.2.2.2.2.2 ∧ some s.2.2.2.2.2.2.2.2.2.2.2.2 ≠ (s.2.2.2.2.2.2.2.2.1 : Value).ownBlock ∧ some s.2.2.2.2.2.2.2.2.2.2.2.2 ≠ (s.2.2.2.2.2.2.2.2.2.1 : Value).ownBlock ∧ some s.2.2.2.2.2.2.2.2.2.2.2.2 ≠ (s.2.2.2.2.2.2.2.2.2.2.1 : Value).ownBlock ∧ some s.2.2.2.2.2.2.2.2.2.2.2.2 ≠ (s.2.2.2.2.2.2.2.2.2.2.2.1 : Value).ownBlock) ?_ ?_
  rotate_left
  · intro H_
    have S3_1 := Aside0.mk H_
    clear H_
    refine join_ 6 #[true, true, true, true, false, false, false, false, true, false, false] (fun s : Value × Value × Value × Value × Value × Value × Value × Value × Nat => [(96, .agg #[s.1, s.2.1, s.2.2.1, s.2.2.2.1]), (98, .agg #[s.2.2.2.2.1, s.2.2.2.2.2.1, s.2.2.2.2.2.2.1, s.2.2.2.2.2.2.2.1]), (15, .pointer (some ⟨s.2.2.2.2.2.2.2.2, 0, none⟩))]) (fun s W_ => Below w26.drew.heap.size w26.drew W_ ∧ Kd.R (Kd.int .i64) 3 W_ w.heap.size (fun _ => True) s.1 l0_0 ∧ Kd.R (Kd.int .i64) 3 W_ w.heap.size (fun _ => True) s.2.1 l0_1 ∧ Kd.R (Kd.int .i64) 3 W_ w.heap.size (fun _ => True) s.2.2.1 l0_2 ∧ Kd.R (Kd.int .i64) 3 W_ w.heap.size (fun _ => True) s.2.2.2.1 l0_3 ∧ Kd.R (Kd.int .i64) 3 W_ w.heap.size (fun _ => True) s.2.2.2.2.1 l1_0 ∧ Kd.R (Kd.int .i64) 3 W_ w.heap.size (fun _ => True) s.2.2.2.2.2.1 l1_1 ∧ Kd.R (Kd.int .i64) 3 W_ w.heap.size (fun _ => True) s.2.2.2.2.2.2.1 l1_2 ∧ Kd.R (Kd.int .i64) 3 W_ w.heap.size (fun _ => True) s.2.2.2.2.2.2.2.1 l1_3 ∧ W_.heap[s.2.2.2.2.2.2.2.2]? = some (.cells #[.slice none 0 0, .slice none 0 0, .slice none 0 0, .slice none 0 0] 26 (0, 0)) ∧ w26.heap.size ≤ s.2.2.2.2.2.2.2.2) ?_ ?_
    · rintro ⟨x0, x1, x2, x3, y0, y1, y2, y3, g_⟩ W ⟨hb, fx0, fx1, fx2, fx3, fy0, fy1, fy2, fy3, fg, fle⟩
      refine norm_ (a' := ?_) ?_ ?_
      rotate_left
      · show putAll _ _ = _
        simp only [putAll, Act.put, List.setIfInBounds_toArray, List.set_cons_zero, List.set_cons_succ, i64_w, i32_w]
        rfl
      refine one_ (i := 4) (N := some 99) #[true, true, true, true, true, false, false, false, true, false, false] rfl rfl (one_of HT_.out (by kernel_rfl)) (by decide) (fun K hK => ?_)
      · obtain ⟨Ax0, cx0, rfl⟩ := Kd.R_slice fx0
        obtain ⟨Ax1, cx1, rfl⟩ := Kd.R_slice fx1
        obtain ⟨Ax2, cx2, rfl⟩ := Kd.R_slice fx2
        obtain ⟨Ax3, cx3, rfl⟩ := Kd.R_slice fx3
        obtain ⟨Ay0, cy0, rfl⟩ := Kd.R_slice fy0
        obtain ⟨Ay1, cy1, rfl⟩ := Kd.R_slice fy1
        obtain ⟨Ay2, cy2, rfl⟩ := Kd.R_slice fy2
        obtain ⟨Ay3, cy3, rfl⟩ := Kd.R_slice fy3
        refine goes_ Try.func13 (by kernel_rfl) rfl #[.agg #[.slice Ax0 l0_0.length cx0, .slice Ax1 l0_1.length cx1, .slice Ax2 l0_2.length cx2, .slice Ax3 l0_3.length cx3], .agg #[.slice Ay0 l1_0.length cy0, .slice Ay1 l1_1.length cy1, .slice Ay2 l1_2.length cy2, .slice Ay3 l1_3.length cy3]] (by rfl) rfl rfl (by (try simp only [List.map_toArray, List.map_cons, List.map_nil]); first | done | rfl) ?_
        have hbw := below_step HBD.out hb
        refine (impl_JoinCases.calls k _ _ l0_0 _ _ l0_1 _ _ l0_2 _ _ l0_3 _ _ l1_0 _ _ l1_1 _ _ l1_2 _ _ l1_3 R0 R1 R2 R3 b W (Kd.R_reads' fx0).2.2 (Kd.R_reads' fx0).2.1 (Kd.R_reads' fx1).2.2 (Kd.R_reads' fx1).2.1 (Kd.R_reads' fx2).2.2 (Kd.R_reads' fx2).2.1 (Kd.R_reads' fx3).2.2 (Kd.R_reads' fx3).2.1 (Kd.R_reads' fy0).2.2 (Kd.R_reads' fy0).2.1 (Kd.R_reads' fy1).2.2 (Kd.R_reads' fy1).2.1 (Kd.R_reads' fy2).2.2 (Kd.R_reads' fy2).2.1 (Kd.R_reads' fy3).2.2 (Kd.R_reads' fy3).2.1 F_impl.out).mono ?_
        rintro e W2 ⟨z0, z1, z2, z3, rfl, ho0, ho1, ho2, ho3, hbl⟩
        refine ⟨_, rfl, ?_⟩
        have hbn := below_step hb hbl
        refine hK.out _ _ (SXX.out _ hbn) (fun hHeld => ?_)
        clear hK K
        refine norm_ (a' := ?_) ?_ ?_
        rotate_left
        · show Act.put _ (some 99) _ = _
          simp only [Act.put, List.setIfInBounds_toArray, List.set_cons_zero, List.set_cons_succ, i64_w, i32_w]
          rfl
        refine pure_ (i := 5) (N := some 94) (v := ?_) (a' := ?_) #[true, true, true, true, true, true, false, false, true, false, false] rfl rfl (any_of HT_.out (by kernel_rfl)) (fun _ _ _ h => h) (Or.inl ⟨by rfl, ?_⟩) ?_ ?_
        rotate_left
        · intro w'
          go_simp
          (try with_reducible rfl)
        rotate_left
        · simp only [Act.put, List.setIfInBounds_toArray, List.set_cons_zero, List.set_cons_succ, i64_w, i32_w]
          rfl
        refine pure_ (i := 6) (N := some 100) (v := ?_) (a' := ?_) #[true, true, true, true, true, true, true, false, true, false, false] rfl rfl (any_of HT_.out (by kernel_rfl)) (fun _ _ _ h => h) (Or.inl ⟨by rfl, ?_⟩) ?_ ?_
        rotate_left
        · intro w'
          go_simp
          (try with_reducible rfl)
        rotate_left
        · simp only [Act.put, List.setIfInBounds_toArray, List.set_cons_zero, List.set_cons_succ, i64_w, i32_w]
          rfl
        refine pure_ (i := 7) (N := some 101) (v := ?_) (a' := ?_) #[true, true, true, true, true, true, true, true, true, false, false] rfl rfl (any_of HT_.out (by kernel_rfl)) (fun _ _ _ h => h) (Or.inl ⟨by rfl, ?_⟩) ?_ ?_
        rotate_left
        · intro w'
          go_simp
          (try with_reducible rfl)
        rotate_left
        · simp only [Act.put, List.setIfInBounds_toArray, List.set_cons_zero, List.set_cons_succ, i64_w, i32_w]
          rfl
        have hc := S3_1.out (.slice Ax0 l0_0.length cx0, .slice Ax1 l0_1.length cx1, .slice Ax2 l0_2.length cx2, .slice Ax3 l0_3.length cx3, .slice Ay0 l1_0.length cy0, .slice Ay1 l1_1.length cy1, .slice Ay2 l1_2.length cy2, .slice Ay3 l1_3.length cy3, z0, z1, z2, z3, g_) _ ⟨hbn, Kd.R_lower ho0 hb.size, Kd.R_lower ho1 hb.size, Kd.R_lower ho2 hb.size, Kd.R_lower ho3 hb.size, (hbl.block g_ (blk_lt fg)).trans fg, fle, fun e_ => absurd (blk_lt fg) (Nat.not_lt.2 (Kd.R_base ho0 _ e_.symm)), fun e_ => absurd (blk_lt fg) (Nat.not_lt.2 (Kd.R_base ho1 _ e_.symm)), fun e_ => absurd (blk_lt fg) (Nat.not_lt.2 (Kd.R_base ho2 _ e_.symm)), fun e_ => absurd (blk_lt fg) (Nat.not_lt.2 (Kd.R_base ho3 _ e_.symm))⟩
        simp only [putAll, Act.put, List.setIfInBounds_toArray, List.set_cons_zero, List.set_cons_succ] at hc
        exact hc
    intro H_
    have S2_1 := Aside0.mk H_
    clear H_
    refine join_ 3 #[true, true, true, true, true, true, true, true, false, false, false] (fun s : Value × Value × Value × Value × Value × Value × Value × Value × Value × Value × Value × Value => [(96, .agg #[s.1, s.2.1, s.2.2.1, s.2.2.2.1]), (98, .agg #[s.2.2.2.2.1, s.2.2.2.2.2.1, s.2.2.2.2.2.2.1, s.2.2.2.2.2.2.2.1]), (99, .tuple #[.agg #[s.2.2.2.2.2.2.2.2.1, s.2.2.2.2.2.2.2.2.2.1, s.2.2.2.2.2.2.2.2.2.2.1, s.2.2.2.2.2.2.2.2.2.2.2], .bool b]), (94, .tuple #[.agg #[s.2.2.2.2.2.2.2.2.1, s.2.2.2.2.2.2.2.2.2.1, s.2.2.2.2.2.2.2.2.2.2.1, s.2.2.2.2.2.2.2.2.2.2.2], .bool b]), (100, .agg #[s.2.2.2.2.2.2.2.2.1, s.2.2.2.2.2.2.2.2.2.1, s.2.2.2.2.2.2.2.2.2.2.1, s.2.2.2.2.2.2.2.2.2.2.2]), (101, .bool b)]) (fun s W_ => Below w26.drew.heap.size w26.drew W_ ∧ Kd.R (Kd.int .i64) 3 W_ w26.heap.size (fun k_ => some k_ ≠ (s.2.2.2.2.2.2.2.2.2.1 : Value).ownBlock ∧ some k_ ≠ (s.2.2.2.2.2.2.2.2.2.2.1 : Value).ownBlock ∧ some k_ ≠ (s.2.2.2.2.2.2.2.2.2.2.2 : Value).ownBlock) s.2.2.2.2.2.2.2.2.1 R0 ∧ Kd.R (Kd.int .i64) 3 W_ w26.heap.size (fun k_ => some k_ ≠ (s.2.2.2.2.2.2.2.2.1 : Value).ownBlock ∧ some k_ ≠ (s.2.2.2.2.2.2.2.2.2.2.1 : Value).ownBlock ∧ some k_ ≠ (s.2.2.2.2.2.2.2.2.2.2.2 : Value).ownBlock) s.2.2.2.2.2.2.2.2.2.1 R1 ∧ Kd.R (Kd.int .i64) 3 W_ w26.heap.size (fun k_ => some k_ ≠ (s.2.2.2.2.2.2.2.2.1 : Value).ownBlock ∧ some k_ ≠ (s.2.2.2.2.2.2.2.2.2.1 : Value).ownBlock ∧ some k_ ≠ (s.2.2.2.2.2.2.2.2.2.2.2 : Value).ownBlock) s.2.2.2.2.2.2.2.2.2.2.1 R2 ∧ Kd.R (Kd.int .i64) 3 W_ w26.heap.size (fun k_ => some k_ ≠ (s.2.2.2.2.2.2.2.2.1 : Value).ownBlock ∧ some k_ ≠ (s.2.2.2.2.2.2.2.2.2.1 : Value).ownBlock ∧ some k_ ≠ (s.2.2.2.2.2.2.2.2.2.2.1 : Value).ownBlock) s.2.2.2.2.2.2.2.2.2.2.2 R3) ?_ ?_
    · rintro ⟨x0, x1, x2, x3, y0, y1, y2, y3, z0, z1, z2, z3⟩ W ⟨hb, fz0, fz1, fz2, fz3⟩
      refine norm_ (a' := ?_) ?_ ?_
      rotate_left
      · show putAll _ _ = _
        simp only [putAll, Act.put, List.setIfInBounds_toArray, List.set_cons_zero, List.set_cons_succ, i64_w, i32_w]
        rfl
      refine one_ (i := 8) (N := some 15) #[true, true, true, true, true, true, true, true, true, false, false] rfl rfl (one_of HT_.out (by kernel_rfl)) (by decide) (fun K hK => ?_)
      · refine value_ (w1 := ?_) (v := ?_) (by rfl) rfl ?_ ?_
        rotate_left 2
        · go_simp
          constructor
          · rfl
          · rfl
        have hbl := below_alloc (Below.refl W.heap.size W) (Obj.cells #[.slice none 0 0, .slice none 0 0, .slice none 0 0, .slice none 0 0] 26)
        have hbn := below_step hb hbl
        refine hK.out _ _ (SXX.out _ hbn) (fun hHeld => ?_)
        clear hK K
        refine norm_ (a' := ?_) ?_ ?_
        rotate_left
        · show Act.put _ (some 15) _ = _
          simp only [Act.put, List.setIfInBounds_toArray, List.set_cons_zero, List.set_cons_succ, i64_w, i32_w]
          rfl
        have hc := S3_1.out (x0, x1, x2, x3, y0, y1, y2, y3, z0, z1, z2, z3, W.heap.size) _ ⟨hbn, Kd.R_below fz0 hbl, Kd.R_below fz1 hbl, Kd.R_below fz2 hbl, Kd.R_below fz3 hbl, Go.heap_alloc_new W _, hb.size, fun e_ => absurd ((Kd.R_bound fz0).1 _ e_.symm).2.2.1 (Nat.lt_irrefl _), fun e_ => absurd ((Kd.R_bound fz1).1 _ e_.symm).2.2.1 (Nat.lt_irrefl _), fun e_ => absurd ((Kd.R_bound fz2).1 _ e_.symm).2.2.1 (Nat.lt_irrefl _), fun e_ => absurd ((Kd.R_bound fz3).1 _ e_.symm).2.2.1 (Nat.lt_irrefl _)⟩
        simp only [putAll, Act.put, List.setIfInBounds_toArray, List.set_cons_zero, List.set_cons_succ] at hc
        exact hc
    intro H_
    have S3_0 := Aside0.mk H_
    clear H_
    refine join_ 7 #[true, true, true, false, false, false, false, false, true, false, false] (fun s : Value × Value × Value × Value × Nat => [(96, .agg #[s.1, s.2.1, s.2.2.1, s.2.2.2.1]), (15, .pointer (some ⟨s.2.2.2.2, 0, none⟩))]) (fun s W_ => Below w26.drew.heap.size w26.drew W_ ∧ Kd.R (Kd.int .i64) 3 W_ w.heap.size (fun _ => True) s.1 l0_0 ∧ Kd.R (Kd.int .i64) 3 W_ w.heap.size (fun _ => True) s.2.1 l0_1 ∧ Kd.R (Kd.int .i64) 3 W_ w.heap.size (fun _ => True) s.2.2.1 l0_2 ∧ Kd.R (Kd.int .i64) 3 W_ w.heap.size (fun _ => True) s.2.2.2.1 l0_3 ∧ W_.heap[s.2.2.2.2]? = some (.cells #[.slice none 0 0, .slice none 0 0, .slice none 0 0, .slice none 0 0] 26 (0, 0)) ∧ w26.heap.size ≤ s.2.2.2.2) ?_ ?_
    · rintro ⟨x0, x1, x2, x3, g_⟩ W ⟨hb, fx0, fx1, fx2, fx3, fg, fle⟩
      refine norm_ (a' := ?_) ?_ ?_
      rotate_left
      · show putAll _ _ = _
        simp only [putAll, Act.put, List.setIfInBounds_toArray, List.set_cons_zero, List.set_cons_succ, i64_w, i32_w]
        rfl
      refine one_ (i := 3) (N := some 98) #[true, true, true, true, false, false, false, false, true, false, false] rfl rfl (one_of HT_.out (by kernel_rfl)) (by decide) (fun K hK => ?_)
      · refine goes_ Try.func7 (by kernel_rfl) rfl #[.agg #[.slice A1_0 l1_0.length c1_0, .slice A1_1 l1_1.length c1_1, .slice A1_2 l1_2.length c1_2, .slice A1_3 l1_3.length c1_3]] (by rfl) rfl rfl (by (try simp only [List.map_toArray, List.map_cons, List.map_nil]); first | done | rfl) ?_
        have hbw := below_step HBD.out hb
        refine (laws_toCase.calls k _ _ l1_0 _ _ l1_1 _ _ l1_2 _ _ l1_3 l1_0 l1_1 l1_2 l1_3 W (Kd.C_below HR1_0.out hbw) HC1_0.out (Kd.C_below HR1_1.out hbw) HC1_1.out (Kd.C_below HR1_2.out hbw) HC1_2.out (Kd.C_below HR1_3.out hbw) HC1_3.out F_toaB.out).mono ?_
        rintro e W2 ⟨y0, y1, y2, y3, rfl, ho0, ho1, ho2, ho3, hbl⟩
        refine ⟨_, rfl, ?_⟩
        have hbn := below_step hb hbl
        refine hK.out _ _ (SXX.out _ hbn) (fun hHeld => ?_)
        clear hK K
        refine norm_ (a' := ?_) ?_ ?_
        rotate_left
        · show Act.put _ (some 98) _ = _
          simp only [Act.put, List.setIfInBounds_toArray, List.set_cons_zero, List.set_cons_succ, i64_w, i32_w]
          rfl
        have hc := S2_1.out (x0, x1, x2, x3, y0, y1, y2, y3, g_) _ ⟨hbn, Kd.R_below fx0 hbl, Kd.R_below fx1 hbl, Kd.R_below fx2 hbl, Kd.R_below fx3 hbl, Kd.R_lower (Kd.R_mono ho0 (fun _ _ => trivial)) hbw.size, Kd.R_lower (Kd.R_mono ho1 (fun _ _ => trivial)) hbw.size, Kd.R_lower (Kd.R_mono ho2 (fun _ _ => trivial)) hbw.size, Kd.R_lower (Kd.R_mono ho3 (fun _ _ => trivial)) hbw.size, (hbl.block g_ (blk_lt fg)).trans fg, fle⟩
        simp only [putAll, Act.put, List.setIfInBounds_toArray, List.set_cons_zero, List.set_cons_succ] at hc
        exact hc
    intro H_
    have S1_1 := Aside0.mk H_
    clear H_
    refine join_ 7 #[true, true, true, true, false, false, false, false, false, false, false] (fun s : Value × Value × Value × Value × Value × Value × Value × Value => [(96, .agg #[s.1, s.2.1, s.2.2.1, s.2.2.2.1]), (98, .agg #[s.2.2.2.2.1, s.2.2.2.2.2.1, s.2.2.2.2.2.2.1, s.2.2.2.2.2.2.2])]) (fun s W_ => Below w26.drew.heap.size w26.drew W_ ∧ Kd.R (Kd.int .i64) 3 W_ w.heap.size (fun _ => True) s.1 l0_0 ∧ Kd.R (Kd.int .i64) 3 W_ w.heap.size (fun _ => True) s.2.1 l0_1 ∧ Kd.R (Kd.int .i64) 3 W_ w.heap.size (fun _ => True) s.2.2.1 l0_2 ∧ Kd.R (Kd.int .i64) 3 W_ w.heap.size (fun _ => True) s.2.2.2.1 l0_3 ∧ Kd.R (Kd.int .i64) 3 W_ w.heap.size (fun _ => True) s.2.2.2.2.1 l1_0 ∧ Kd.R (Kd.int .i64) 3 W_ w.heap.size (fun _ => True) s.2.2.2.2.2.1 l1_1 ∧ Kd.R (Kd.int .i64) 3 W_ w.heap.size (fun _ => True) s.2.2.2.2.2.2.1 l1_2 ∧ Kd.R (Kd.int .i64) 3 W_ w.heap.size (fun _ => True) s.2.2.2.2.2.2.2 l1_3) ?_ ?_
    · rintro ⟨x0, x1, x2, x3, y0, y1, y2, y3⟩ W ⟨hb, fx0, fx1, fx2, fx3, fy0, fy1, fy2, fy3⟩
      refine norm_ (a' := ?_) ?_ ?_
      rotate_left
      · show putAll _ _ = _
        simp only [putAll, Act.put, List.setIfInBounds_toArray, List.set_cons_zero, List.set_cons_succ, i64_w, i32_w]
        rfl
      refine two_ (i := 4) (j := 8) (Ni := some 99) (Nj := some 15) #[true, true, true, true, true, false, false, false, false, false, false] #[true, true, true, true, false, false, false, false, true, false, false] rfl rfl rfl rfl (two_of HT_.out (by kernel_rfl)) (by decide) (by decide) (fun K hK => ?_) (fun K hK => ?_)
      · obtain ⟨Ax0, cx0, rfl⟩ := Kd.R_slice fx0
        obtain ⟨Ax1, cx1, rfl⟩ := Kd.R_slice fx1
        obtain ⟨Ax2, cx2, rfl⟩ := Kd.R_slice fx2
        obtain ⟨Ax3, cx3, rfl⟩ := Kd.R_slice fx3
        obtain ⟨Ay0, cy0, rfl⟩ := Kd.R_slice fy0
        obtain ⟨Ay1, cy1, rfl⟩ := Kd.R_slice fy1
        obtain ⟨Ay2, cy2, rfl⟩ := Kd.R_slice fy2
        obtain ⟨Ay3, cy3, rfl⟩ := Kd.R_slice fy3
        refine goes_ Try.func13 (by kernel_rfl) rfl #[.agg #[.slice Ax0 l0_0.length cx0, .slice Ax1 l0_1.length cx1, .slice Ax2 l0_2.length cx2, .slice Ax3 l0_3.length cx3], .agg #[.slice Ay0 l1_0.length cy0, .slice Ay1 l1_1.length cy1, .slice Ay2 l1_2.length cy2, .slice Ay3 l1_3.length cy3]] (by rfl) rfl rfl (by (try simp only [List.map_toArray, List.map_cons, List.map_nil]); first | done | rfl) ?_
        have hbw := below_step HBD.out hb
        refine (impl_JoinCases.calls k _ _ l0_0 _ _ l0_1 _ _ l0_2 _ _ l0_3 _ _ l1_0 _ _ l1_1 _ _ l1_2 _ _ l1_3 R0 R1 R2 R3 b W (Kd.R_reads' fx0).2.2 (Kd.R_reads' fx0).2.1 (Kd.R_reads' fx1).2.2 (Kd.R_reads' fx1).2.1 (Kd.R_reads' fx2).2.2 (Kd.R_reads' fx2).2.1 (Kd.R_reads' fx3).2.2 (Kd.R_reads' fx3).2.1 (Kd.R_reads' fy0).2.2 (Kd.R_reads' fy0).2.1 (Kd.R_reads' fy1).2.2 (Kd.R_reads' fy1).2.1 (Kd.R_reads' fy2).2.2 (Kd.R_reads' fy2).2.1 (Kd.R_reads' fy3).2.2 (Kd.R_reads' fy3).2.1 F_impl.out).mono ?_
        rintro e W2 ⟨z0, z1, z2, z3, rfl, ho0, ho1, ho2, ho3, hbl⟩
        refine ⟨_, rfl, ?_⟩
        have hbn := below_step hb hbl
        refine hK.out _ _ (SXX.out _ hbn) (fun hHeld => ?_)
        clear hK K
        refine norm_ (a' := ?_) ?_ ?_
        rotate_left
        · show Act.put _ (some 99) _ = _
          simp only [Act.put, List.setIfInBounds_toArray, List.set_cons_zero, List.set_cons_succ, i64_w, i32_w]
          rfl
        refine pure_ (i := 5) (N := some 94) (v := ?_) (a' := ?_) #[true, true, true, true, true, true, false, false, false, false, false] rfl rfl (any_of HT_.out (by kernel_rfl)) (fun _ _ _ h => h) (Or.inl ⟨by rfl, ?_⟩) ?_ ?_
        rotate_left
        · intro w'
          go_simp
          (try with_reducible rfl)
        rotate_left
        · simp only [Act.put, List.setIfInBounds_toArray, List.set_cons_zero, List.set_cons_succ, i64_w, i32_w]
          rfl
        refine pure_ (i := 6) (N := some 100) (v := ?_) (a' := ?_) #[true, true, true, true, true, true, true, false, false, false, false] rfl rfl (any_of HT_.out (by kernel_rfl)) (fun _ _ _ h => h) (Or.inl ⟨by rfl, ?_⟩) ?_ ?_
        rotate_left
        · intro w'
          go_simp
          (try with_reducible rfl)
        rotate_left
        · simp only [Act.put, List.setIfInBounds_toArray, List.set_cons_zero, List.set_cons_succ, i64_w, i32_w]
          rfl
        refine pure_ (i := 7) (N := some 101) (v := ?_) (a' := ?_) #[true, true, true, true, true, true, true, true, false, false, false] rfl rfl (any_of HT_.out (by kernel_rfl)) (fun _ _ _ h => h) (Or.inl ⟨by rfl, ?_⟩) ?_ ?_
        rotate_left
        · intro w'
          go_simp
          (try with_reducible rfl)
        rotate_left
        · simp only [Act.put, List.setIfInBounds_toArray, List.set_cons_zero, List.set_cons_succ, i64_w, i32_w]
          rfl
        have hc := S3_0.out (.slice Ax0 l0_0.length cx0, .slice Ax1 l0_1.length cx1, .slice Ax2 l0_2.length cx2, .slice Ax3 l0_3.length cx3, .slice Ay0 l1_0.length cy0, .slice Ay1 l1_1.length cy1, .slice Ay2 l1_2.length cy2, .slice Ay3 l1_3.length cy3, z0, z1, z2, z3) _ ⟨hbn, Kd.R_lower ho0 hb.size, Kd.R_lower ho1 hb.size, Kd.R_lower ho2 hb.size, Kd.R_lower ho3 hb.size⟩
        simp only [putAll, Act.put, List.setIfInBounds_toArray, List.set_cons_zero, List.set_cons_succ] at hc
        exact hc
      · refine value_ (w1 := ?_) (v := ?_) (by rfl) rfl ?_ ?_
        rotate_left 2
        · go_simp
          constructor
          · rfl
          · rfl
        have hbl := below_alloc (Below.refl W.heap.size W) (Obj.cells #[.slice none 0 0, .slice none 0 0, .slice none 0 0, .slice none 0 0] 26)
        have hbn := below_step hb hbl
        refine hK.out _ _ (SXX.out _ hbn) (fun hHeld => ?_)
        clear hK K
        refine norm_ (a' := ?_) ?_ ?_
        rotate_left
        · show Act.put _ (some 15) _ = _
          simp only [Act.put, List.setIfInBounds_toArray, List.set_cons_zero, List.set_cons_succ, i64_w, i32_w]
          rfl
        have hc := S2_1.out (x0, x1, x2, x3, y0, y1, y2, y3, W.heap.size) _ ⟨hbn, Kd.R_below fx0 hbl, Kd.R_below fx1 hbl, Kd.R_below fx2 hbl, Kd.R_below fx3 hbl, Kd.R_below fy0 hbl, Kd.R_below fy1 hbl, Kd.R_below fy2 hbl, Kd.R_below fy3 hbl, Go.heap_alloc_new W _, hb.size⟩
        simp only [putAll, Act.put, List.setIfInBounds_toArray, List.set_cons_zero, List.set_cons_succ] at hc
        exact hc
    intro H_
    have S2_0 := Aside0.mk H_
    clear H_
    refine join_ 8 #[true, false, true, false, false, false, false, false, true, false, false] (fun s : Nat => [(15, .pointer (some ⟨s, 0, none⟩))]) (fun s W_ => Below w26.drew.heap.size w26.drew W_ ∧ W_.heap[s]? = some (.cells #[.slice none 0 0, .slice none 0 0, .slice none 0 0, .slice none 0 0] 26 (0, 0)) ∧ w26.heap.size ≤ s) ?_ ?_
    · rintro g_ W ⟨hb, fg, fle⟩
      refine norm_ (a' := ?_) ?_ ?_
      rotate_left
      · show putAll _ _ = _
        simp only [putAll, Act.put, List.setIfInBounds_toArray, List.set_cons_zero, List.set_cons_succ, i64_w, i32_w]
        rfl
      refine one_ (i := 1) (N := some 96) #[true, true, true, false, false, false, false, false, true, false, false] rfl rfl (one_of HT_.out (by kernel_rfl)) (by decide) (fun K hK => ?_)
      · refine goes_ Try.func7 (by kernel_rfl) rfl #[.agg #[.slice A0_0 l0_0.length c0_0, .slice A0_1 l0_1.length c0_1, .slice A0_2 l0_2.length c0_2, .slice A0_3 l0_3.length c0_3]] (by rfl) rfl rfl (by (try simp only [List.map_toArray, List.map_cons, List.map_nil]); first | done | rfl) ?_
        have hbw := below_step HBD.out hb
        refine (laws_toCase.calls k _ _ l0_0 _ _ l0_1 _ _ l0_2 _ _ l0_3 l0_0 l0_1 l0_2 l0_3 W (Kd.C_below HR0_0.out hbw) HC0_0.out (Kd.C_below HR0_1.out hbw) HC0_1.out (Kd.C_below HR0_2.out hbw) HC0_2.out (Kd.C_below HR0_3.out hbw) HC0_3.out F_toaA.out).mono ?_
        rintro e W2 ⟨x0, x1, x2, x3, rfl, ho0, ho1, ho2, ho3, hbl⟩
        refine ⟨_, rfl, ?_⟩
        have hbn := below_step hb hbl
        refine hK.out _ _ (SXX.out _ hbn) (fun hHeld => ?_)
        clear hK K
        refine norm_ (a' := ?_) ?_ ?_
        rotate_left
        · show Act.put _ (some 96) _ = _
          simp only [Act.put, List.setIfInBounds_toArray, List.set_cons_zero, List.set_cons_succ, i64_w, i32_w]
          rfl
        have hc := S1_1.out (x0, x1, x2, x3, g_) _ ⟨hbn, Kd.R_lower (Kd.R_mono ho0 (fun _ _ => trivial)) hbw.size, Kd.R_lower (Kd.R_mono ho1 (fun _ _ => trivial)) hbw.size, Kd.R_lower (Kd.R_mono ho2 (fun _ _ => trivial)) hbw.size, Kd.R_lower (Kd.R_mono ho3 (fun _ _ => trivial)) hbw.size, (hbl.block g_ (blk_lt fg)).trans fg, fle⟩
        simp only [putAll, Act.put, List.setIfInBounds_toArray, List.set_cons_zero, List.set_cons_succ] at hc
        exact hc
    intro H_
    have S0_1 := Aside0.mk H_
    clear H_
    refine join_ 8 #[true, true, true, false, false, false, false, false, false, false, false] (fun s : Value × Value × Value × Value => [(96, .agg #[s.1, s.2.1, s.2.2.1, s.2.2.2])]) (fun s W_ => Below w26.drew.heap.size w26.drew W_ ∧ Kd.R (Kd.int .i64) 3 W_ w.heap.size (fun _ => True) s.1 l0_0 ∧ Kd.R (Kd.int .i64) 3 W_ w.heap.size (fun _ => True) s.2.1 l0_1 ∧ Kd.R (Kd.int .i64) 3 W_ w.heap.size (fun _ => True) s.2.2.1 l0_2 ∧ Kd.R (Kd.int .i64) 3 W_ w.heap.size (fun _ => True) s.2.2.2 l0_3) ?_ ?_
    · rintro ⟨x0, x1, x2, x3⟩ W ⟨hb, fx0, fx1, fx2, fx3⟩
      refine norm_ (a' := ?_) ?_ ?_
      rotate_left
      · show putAll _ _ = _
        simp only [putAll, Act.put, List.setIfInBounds_toArray, List.set_cons_zero, List.set_cons_succ, i64_w, i32_w]
        rfl
      refine two_ (i := 3) (j := 8) (Ni := some 98) (Nj := some 15) #[true, true, true, true, false, false, false, false, false, false, false] #[true, true, true, false, false, false, false, false, true, false, false] rfl rfl rfl rfl (two_of HT_.out (by kernel_rfl)) (by decide) (by decide) (fun K hK => ?_) (fun K hK => ?_)
      · refine goes_ Try.func7 (by kernel_rfl) rfl #[.agg #[.slice A1_0 l1_0.length c1_0, .slice A1_1 l1_1.length c1_1, .slice A1_2 l1_2.length c1_2, .slice A1_3 l1_3.length c1_3]] (by rfl) rfl rfl (by (try simp only [List.map_toArray, List.map_cons, List.map_nil]); first | done | rfl) ?_
        have hbw := below_step HBD.out hb
        refine (laws_toCase.calls k _ _ l1_0 _ _ l1_1 _ _ l1_2 _ _ l1_3 l1_0 l1_1 l1_2 l1_3 W (Kd.C_below HR1_0.out hbw) HC1_0.out (Kd.C_below HR1_1.out hbw) HC1_1.out (Kd.C_below HR1_2.out hbw) HC1_2.out (Kd.C_below HR1_3.out hbw) HC1_3.out F_toaB.out).mono ?_
        rintro e W2 ⟨y0, y1, y2, y3, rfl, ho0, ho1, ho2, ho3, hbl⟩
        refine ⟨_, rfl, ?_⟩
        have hbn := below_step hb hbl
        refine hK.out _ _ (SXX.out _ hbn) (fun hHeld => ?_)
        clear hK K
        refine norm_ (a' := ?_) ?_ ?_
        rotate_left
        · show Act.put _ (some 98) _ = _
          simp only [Act.put, List.setIfInBounds_toArray, List.set_cons_zero, List.set_cons_succ, i64_w, i32_w]
          rfl
        have hc := S2_0.out (x0, x1, x2, x3, y0, y1, y2, y3) _ ⟨hbn, Kd.R_below fx0 hbl, Kd.R_below fx1 hbl, Kd.R_below fx2 hbl, Kd.R_below fx3 hbl, Kd.R_lower (Kd.R_mono ho0 (fun _ _ => trivial)) hbw.size, Kd.R_lower (Kd.R_mono ho1 (fun _ _ => trivial)) hbw.size, Kd.R_lower (Kd.R_mono ho2 (fun _ _ => trivial)) hbw.size, Kd.R_lower (Kd.R_mono ho3 (fun _ _ => trivial)) hbw.size⟩
        simp only [putAll, Act.put, List.setIfInBounds_toArray, List.set_cons_zero, List.set_cons_succ] at hc
        exact hc
      · refine value_ (w1 := ?_) (v := ?_) (by rfl) rfl ?_ ?_
        rotate_left 2
        · go_simp
          constructor
          · rfl
          · rfl
        have hbl := below_alloc (Below.refl W.heap.size W) (Obj.cells #[.slice none 0 0, .slice none 0 0, .slice none 0 0, .slice none 0 0] 26)
        have hbn := below_step hb hbl
        refine hK.out _ _ (SXX.out _ hbn) (fun hHeld => ?_)
        clear hK K
        refine norm_ (a' := ?_) ?_ ?_
        rotate_left
        · show Act.put _ (some 15) _ = _
          simp only [Act.put, List.setIfInBounds_toArray, List.set_cons_zero, List.set_cons_succ, i64_w, i32_w]
          rfl
        have hc := S1_1.out (x0, x1, x2, x3, W.heap.size) _ ⟨hbn, Kd.R_below fx0 hbl, Kd.R_below fx1 hbl, Kd.R_below fx2 hbl, Kd.R_below fx3 hbl, Go.heap_alloc_new W _, hb.size⟩
        simp only [putAll, Act.put, List.setIfInBounds_toArray, List.set_cons_zero, List.set_cons_succ] at hc
        exact hc
    intro H_
    have S1_0 := Aside0.mk H_
    clear H_
    have fle0 : w26.heap.size ≤ w26.drew.heap.size := Nat.le_refl _
    have hb := Below.refl w26.drew.heap.size w26.drew
    generalize hWW : w26.drew = W at hb fle0 ⊢
    rw [hWW] at SXX HBD S3_1 S2_1 S3_0 S1_1 S2_0 S0_1 S1_0
    clear hWW hHeld
    refine two_ (i := 1) (j := 8) (Ni := some 96) (Nj := some 15) #[true, true, true, false, false, false, false, false, false, false, false] #[true, false, true, false, false, false, false, false, true, false, false] rfl rfl rfl rfl (two_of HT_.out (by kernel_rfl)) (by decide) (by decide) (fun K hK => ?_) (fun K hK => ?_)
    · refine goes_ Try.func7 (by kernel_rfl) rfl #[.agg #[.slice A0_0 l0_0.length c0_0, .slice A0_1 l0_1.length c0_1, .slice A0_2 l0_2.length c0_2, .slice A0_3 l0_3.length c0_3]] (by rfl) rfl rfl (by (try simp only [List.map_toArray, List.map_cons, List.map_nil]); first | done | rfl) ?_
      have hbw := below_step HBD.out hb
      refine (laws_toCase.calls k _ _ l0_0 _ _ l0_1 _ _ l0_2 _ _ l0_3 l0_0 l0_1 l0_2 l0_3 W (Kd.C_below HR0_0.out hbw) HC0_0.out (Kd.C_below HR0_1.out hbw) HC0_1.out (Kd.C_below HR0_2.out hbw) HC0_2.out (Kd.C_below HR0_3.out hbw) HC0_3.out F_toaA.out).mono ?_
      rintro e W2 ⟨x0, x1, x2, x3, rfl, ho0, ho1, ho2, ho3, hbl⟩
      refine ⟨_, rfl, ?_⟩
      have hbn := below_step hb hbl
      refine hK.out _ _ (SXX.out _ hbn) (fun hHeld => ?_)
      clear hK K
      refine norm_ (a' := ?_) ?_ ?_
      rotate_left
      · show Act.put _ (some 96) _ = _
        simp only [Act.put, List.setIfInBounds_toArray, List.set_cons_zero, List.set_cons_succ, i64_w, i32_w]
        rfl
      have hc := S1_0.out (x0, x1, x2, x3) _ ⟨hbn, Kd.R_lower (Kd.R_mono ho0 (fun _ _ => trivial)) hbw.size, Kd.R_lower (Kd.R_mono ho1 (fun _ _ => trivial)) hbw.size, Kd.R_lower (Kd.R_mono ho2 (fun _ _ => trivial)) hbw.size, Kd.R_lower (Kd.R_mono ho3 (fun _ _ => trivial)) hbw.size⟩
      simp only [putAll, Act.put, List.setIfInBounds_toArray, List.set_cons_zero, List.set_cons_succ] at hc
      exact hc
    · refine value_ (w1 := ?_) (v := ?_) (by rfl) rfl ?_ ?_
      rotate_left 2
      · go_simp
        constructor
        · rfl
        · rfl
      have hbl := below_alloc (Below.refl W.heap.size W) (Obj.cells #[.slice none 0 0, .slice none 0 0, .slice none 0 0, .slice none 0 0] 26)
      have hbn := below_step hb hbl
      refine hK.out _ _ (SXX.out _ hbn) (fun hHeld => ?_)
      clear hK K
      refine norm_ (a' := ?_) ?_ ?_
      rotate_left
      · show Act.put _ (some 15) _ = _
        simp only [Act.put, List.setIfInBounds_toArray, List.set_cons_zero, List.set_cons_succ, i64_w, i32_w]
        rfl
      have hc := S0_1.out (W.heap.size) _ ⟨hbn, Go.heap_alloc_new W _, fle0⟩
      simp only [putAll, Act.put, List.setIfInBounds_toArray, List.set_cons_zero, List.set_cons_succ] at hc
      exact hc
  rintro ⟨_, _, _, _, _, _, _, _, v27_0, v27_1, v27_2, v27_3, g27⟩ W ⟨hb, hm0, hm1, hm2, hm3, fg, fle, fne0, fne1, fne2, fne3⟩
  clear SXX
  have P27_0_1 := Aside0.mk (show ∀ k_, some k_ = (v27_0 : Value).ownBlock → ¬ some k_ = (v27_1 : Value).ownBlock from fun k_ h1 h2 => (hm0.1 k_ h1.symm).1 h2)
  have P27_0_2 := Aside0.mk (show ∀ k_, some k_ = (v27_0 : Value).ownBlock → ¬ some k_ = (v27_2 : Value).ownBlock from fun k_ h1 h2 => (hm0.1 k_ h1.symm).2.1 h2)
  have P27_0_3 := Aside0.mk (show ∀ k_, some k_ = (v27_0 : Value).ownBlock → ¬ some k_ = (v27_3 : Value).ownBlock from fun k_ h1 h2 => (hm0.1 k_ h1.symm).2.2 h2)
  have P27_1_0 := Aside0.mk (show ∀ k_, some k_ = (v27_1 : Value).ownBlock → ¬ some k_ = (v27_0 : Value).ownBlock from fun k_ h1 h2 => (hm1.1 k_ h1.symm).1 h2)
  have P27_1_2 := Aside0.mk (show ∀ k_, some k_ = (v27_1 : Value).ownBlock → ¬ some k_ = (v27_2 : Value).ownBlock from fun k_ h1 h2 => (hm1.1 k_ h1.symm).2.1 h2)
  have P27_1_3 := Aside0.mk (show ∀ k_, some k_ = (v27_1 : Value).ownBlock → ¬ some k_ = (v27_3 : Value).ownBlock from fun k_ h1 h2 => (hm1.1 k_ h1.symm).2.2 h2)
  have P27_2_0 := Aside0.mk (show ∀ k_, some k_ = (v27_2 : Value).ownBlock → ¬ some k_ = (v27_0 : Value).ownBlock from fun k_ h1 h2 => (hm2.1 k_ h1.symm).1 h2)
  have P27_2_1 := Aside0.mk (show ∀ k_, some k_ = (v27_2 : Value).ownBlock → ¬ some k_ = (v27_1 : Value).ownBlock from fun k_ h1 h2 => (hm2.1 k_ h1.symm).2.1 h2)
  have P27_2_3 := Aside0.mk (show ∀ k_, some k_ = (v27_2 : Value).ownBlock → ¬ some k_ = (v27_3 : Value).ownBlock from fun k_ h1 h2 => (hm2.1 k_ h1.symm).2.2 h2)
  have P27_3_0 := Aside0.mk (show ∀ k_, some k_ = (v27_3 : Value).ownBlock → ¬ some k_ = (v27_0 : Value).ownBlock from fun k_ h1 h2 => (hm3.1 k_ h1.symm).1 h2)
  have P27_3_1 := Aside0.mk (show ∀ k_, some k_ = (v27_3 : Value).ownBlock → ¬ some k_ = (v27_1 : Value).ownBlock from fun k_ h1 h2 => (hm3.1 k_ h1.symm).2.1 h2)
  have P27_3_2 := Aside0.mk (show ∀ k_, some k_ = (v27_3 : Value).ownBlock → ¬ some k_ = (v27_2 : Value).ownBlock from fun k_ h1 h2 => (hm3.1 k_ h1.symm).2.2 h2)
  obtain ⟨A27_0, c27_0, e27_0⟩ := Kd.R_slice hm0
  subst e27_0
  obtain ⟨A27_1, c27_1, e27_1⟩ := Kd.R_slice hm1
  subst e27_1
  obtain ⟨A27_2, c27_2, e27_2⟩ := Kd.R_slice hm2
  subst e27_2
  obtain ⟨A27_3, c27_3, e27_3⟩ := Kd.R_slice hm3
  subst e27_3
  refine norm_ (a' := ?_) ?_ ?_
  rotate_left
  · show putAll _ _ = _
    simp only [putAll, Act.put, List.setIfInBounds_toArray, List.set_cons_zero, List.set_cons_succ, i64_w, i32_w]
    rfl
  have hz_0 := (blk_cell fg 0).trans (show _ = some (.slice none 0 0 : Value) from rfl)
  have hf_0 := blk_frozen fg 0
  have hz_1 := (blk_cell fg 1).trans (show _ = some (.slice none 0 0 : Value) from rfl)
  have hf_1 := blk_frozen fg 1
  have hz_2 := (blk_cell fg 2).trans (show _ = some (.slice none 0 0 : Value) from rfl)
  have hf_2 := blk_frozen fg 2
  have hz_3 := (blk_cell fg 3).trans (show _ = some (.slice none 0 0 : Value) from rfl)
  have hf_3 := blk_frozen fg 3
  refine last_ (i := 9) (N := none) #[true, true, true, true, true, true, true, true, true, true, false] rfl rfl (one_of HT_.out (by kernel_rfl)) (by decide) (fun K hK => ?_)
  refine skip_ (w1 := ?_) (by rfl) rfl ?_ ?_
  rotate_left
  · go_simp
    rfl
  refine hK.out _ _ ?_
  clear hK K
  refine pure_ (i := 10) (N := some 16) (v := ?_) (a' := ?_) #[true, true, true, true, true, true, true, true, true, true, true] rfl rfl (any_of HT_.out (by kernel_rfl)) (fun _ _ _ h => h) (Or.inl ⟨by rfl, ?_⟩) ?_ ?_
  rotate_left
  · intro w'
    go_simp
    (try with_reducible rfl)
  rotate_left
  · simp only [Act.put, List.setIfInBounds_toArray, List.set_cons_zero, List.set_cons_succ, i64_w, i32_w]
    rfl
  refine done_ (done_of HT_.out (by kernel_rfl)) ?_
  generalize hw27 : (World.setCell (World.setCell (World.setCell (World.setCell W ⟨g27, 0, none⟩ (.slice A27_0 R0.length c27_0)) ⟨g27, 1, none⟩ (.slice A27_1 R1.length c27_1)) ⟨g27, 2, none⟩ (.slice A27_2 R2.length c27_2)) ⟨g27, 3, none⟩ (.slice A27_3 R3.length c27_3)) = w27
  have S27 := stored4 fg (below_step (below_drew1 HB.out) hb) (Nat.le_trans HB26.out fle) (.slice A27_0 R0.length c27_0) (.slice A27_1 R1.length c27_1) (.slice A27_2 R2.length c27_2) (.slice A27_3 R3.length c27_3)
  have SL27 := stored4 (w := w26) fg (below_step (below_drew1 (Below.refl w26.heap.size w26)) hb) fle (.slice A27_0 R0.length c27_0) (.slice A27_1 R1.length c27_1) (.slice A27_2 R2.length c27_2) (.slice A27_3 R3.length c27_3)
  rw [hw27] at S27 SL27
  have M27_0 := Aside0.mk (Kd.R_step (Kd.R_tight rfl hm0) (fun k_ hk hlt => S27.2.1.2 k_ hlt (Nat.lt_or_gt_of_ne (fun e_ => fne0 (e_ ▸ hk)))))
  have M27_1 := Aside0.mk (Kd.R_step (Kd.R_tight rfl hm1) (fun k_ hk hlt => S27.2.1.2 k_ hlt (Nat.lt_or_gt_of_ne (fun e_ => fne1 (e_ ▸ hk)))))
  have M27_2 := Aside0.mk (Kd.R_step (Kd.R_tight rfl hm2) (fun k_ hk hlt => S27.2.1.2 k_ hlt (Nat.lt_or_gt_of_ne (fun e_ => fne2 (e_ ▸ hk)))))
  have M27_3 := Aside0.mk (Kd.R_step (Kd.R_tight rfl hm3) (fun k_ hk hlt => S27.2.1.2 k_ hlt (Nat.lt_or_gt_of_ne (fun e_ => fne3 (e_ ▸ hk)))))
  have BK_h0 := Aside0.mk S27.1
  have NB_h0 := Aside0.mk (show w26.heap.size ≤ g27 ∧ g27 < w27.heap.size from ⟨fle, blk_lt S27.1⟩)
  have D27 := Aside0.mk SL27.2.2
  clear hz_0 hz_1 hz_2 hz_3 hf_0 hf_1 hf_2 hf_3 S27 SL27 hw27 fg fle fne0 fne1 fne2 fne3 hm0 hm1 hm2 hm3 hb HBD
  have F27 := Aside0.mk (Fr.of_below D27.out)
  have HBn := Aside0.mk (below_step HB.out D27.out)
  clear HB
  have HB := HBn
  clear HBn
  have G27 := Aside0.mk F27.out.1
  have HB27 := Aside0.mk HB.out.size
  obtain ⟨a27_0, b27_0, N27_0, H27_0⟩ := Hd.new M27_0.out (B := w.heap.size) HB26.out G27.out
  have N27_0 := Aside0.mk N27_0
  have H27_0 := Aside0.mk H27_0
  obtain ⟨a27_1, b27_1, N27_1, H27_1⟩ := Hd.new M27_1.out (B := w.heap.size) HB26.out G27.out
  have N27_1 := Aside0.mk N27_1
  have H27_1 := Aside0.mk H27_1
  obtain ⟨a27_2, b27_2, N27_2, H27_2⟩ := Hd.new M27_2.out (B := w.heap.size) HB26.out G27.out
  have N27_2 := Aside0.mk N27_2
  have H27_2 := Aside0.mk H27_2
  obtain ⟨a27_3, b27_3, N27_3, H27_3⟩ := Hd.new M27_3.out (B := w.heap.size) HB26.out G27.out
  have N27_3 := Aside0.mk N27_3
  have H27_3 := Aside0.mk H27_3
  clear M27_0 M27_1 M27_2 M27_3 D27
  have hc_h0_0 : w27.cell? ⟨g27, 0, none⟩ = some (.slice A27_0 R0.length c27_0) := (blk_cell BK_h0.out 0).trans rfl
  have hc_h0_1 : w27.cell? ⟨g27, 1, none⟩ = some (.slice A27_1 R1.length c27_1) := (blk_cell BK_h0.out 1).trans rfl
  have hc_h0_2 : w27.cell? ⟨g27, 2, none⟩ = some (.slice A27_2 R2.length c27_2) := (blk_cell BK_h0.out 2).trans rfl
  have hc_h0_3 : w27.cell? ⟨g27, 3, none⟩ = some (.slice A27_3 R3.length c27_3) := (blk_cell BK_h0.out 3).trans rfl
  have BK_w0n := Aside0.mk (Fr.blk (Fr.blk (Fr.blk (Fr.blk (BK_w0.out) F24.out (.inr (Nat.zero_le _))) F25.out (by have := NB_w0.out; have := G6.out; have := G7.out; have := G8.out; have := G9.out; have := G10.out; have := G11.out; left; omega)) F26.out (.inr (Nat.zero_le _))) F27.out (.inr (Nat.zero_le _)))
  clear BK_w0
  have BK_w0 := BK_w0n
  clear BK_w0n
  have hc_w0_0 : w27.cell? ⟨g5, 0, none⟩ = some (.slice A5_0 R0.length c5_0) := (blk_cell BK_w0.out 0).trans rfl
  have hc_w0_1 : w27.cell? ⟨g5, 1, none⟩ = some (.slice A5_1 R1.length c5_1) := (blk_cell BK_w0.out 1).trans rfl
  have hc_w0_2 : w27.cell? ⟨g5, 2, none⟩ = some (.slice A5_2 R2.length c5_2) := (blk_cell BK_w0.out 2).trans rfl
  have hc_w0_3 : w27.cell? ⟨g5, 3, none⟩ = some (.slice A5_3 R3.length c5_3) := (blk_cell BK_w0.out 3).trans rfl
  have H5_0n := Aside0.mk (Hd.move (Hd.move (Hd.move (Hd.move (H5_0.out) F24.out (.inr (Nat.zero_le _))) F25.out (by have := N5_0.out; have := G6.out; have := G7.out; have := G8.out; have := G9.out; have := G10.out; have := G11.out; left; omega)) F26.out (.inr (Nat.zero_le _))) F27.out (.inr (Nat.zero_le _)))
  clear H5_0
  have H5_0 := H5_0n
  clear H5_0n
  have H5_1n := Aside0.mk (Hd.move (Hd.move (Hd.move (Hd.move (H5_1.out) F24.out (.inr (Nat.zero_le _))) F25.out (by have := N5_1.out; have := G6.out; have := G7.out; have := G8.out; have := G9.out; have := G10.out; have := G11.out; left; omega)) F26.out (.inr (Nat.zero_le _))) F27.out (.inr (Nat.zero_le _)))
  clear H5_1
  have H5_1 := H5_1n
  clear H5_1n
  have H5_2n := Aside0.mk (Hd.move (Hd.move (Hd.move (Hd.move (H5_2.out) F24.out (.inr (Nat.zero_le _))) F25.out (by have := N5_2.out; have := G6.out; have := G7.out; have := G8.out; have := G9.out; have := G10.out; have := G11.out; left; omega)) F26.out (.inr (Nat.zero_le _))) F27.out (.inr (Nat.zero_le _)))
  clear H5_2
  have H5_2 := H5_2n
  clear H5_2n
  have H5_3n := Aside0.mk (Hd.move (Hd.move (Hd.move (Hd.move (H5_3.out) F24.out (.inr (Nat.zero_le _))) F25.out (by have := N5_3.out; have := G6.out; have := G7.out; have := G8.out; have := G9.out; have := G10.out; have := G11.out; left; omega)) F26.out (.inr (Nat.zero_le _))) F27.out (.inr (Nat.zero_le _)))
  clear H5_3
  have H5_3 := H5_3n
  clear H5_3n
  go_wp2_with (first | (go_at_call 9; (with_reducible refine (laws_eqCase.calls k _ _ R0 _ _ R1 _ _ R2 _ _ R3 _ _ R0 _ _ R1 _ _ R2 _ _ R3 true (w27) (Hd.C H27_0.out) (Hd.cap H27_0.out) (Hd.C H27_1.out) (Hd.cap H27_1.out) (Hd.C H27_2.out) (Hd.cap H27_2.out) (Hd.C H27_3.out) (Hd.cap H27_3.out) (Hd.C H5_0.out) (Hd.cap H5_0.out) (Hd.C H5_1.out) (Hd.cap H5_1.out) (Hd.C H5_2.out) (Hd.cap H5_2.out) (Hd.C H5_3.out) (Hd.cap H5_3.out) (F_eqR.out)).mono ?_); rintro e w28 ⟨rfl, hb⟩; have D28 := Aside0.mk hb; clear hb; have F28 := Aside0.mk (Fr.of_below D28.out); have HBn := Aside0.mk (below_step HB.out D28.out); clear HB; have HB := HBn; clear HBn; have G28 := Aside0.mk F28.out.1; have HB28 := Aside0.mk HB.out.size; have BK_g0n := Aside0.mk (Fr.blk (Fr.blk (Fr.blk (BK_g0.out) F26.out (.inr (Nat.zero_le _))) F27.out (.inr (Nat.zero_le _))) F28.out (.inr (Nat.zero_le _))); clear BK_g0; have BK_g0 := BK_g0n; clear BK_g0n; have hc_g0_0 : w28.cell? ⟨g10, 0, none⟩ = some (.slice A12_0 R0.length c12_0) := (blk_cell BK_g0.out 0).trans rfl; have hc_g0_1 : w28.cell? ⟨g10, 1, none⟩ = some (.slice A12_1 R1.length c12_1) := (blk_cell BK_g0.out 1).trans rfl; have hc_g0_2 : w28.cell? ⟨g10, 2, none⟩ = some (.slice A12_2 R2.length c12_2) := (blk_cell BK_g0.out 2).trans rfl; have hc_g0_3 : w28.cell? ⟨g10, 3, none⟩ = some (.slice A12_3 R3.length c12_3) := (blk_cell BK_g0.out 3).trans rfl))
  have H12_0n := Aside0.mk (Hd.move (Hd.move (Hd.move (H12_0.out) F26.out (.inr (Nat.zero_le _))) F27.out (.inr (Nat.zero_le _))) F28.out (.inr (Nat.zero_le _)))
  clear H12_0
  have H12_0 := H12_0n
  clear H12_0n
  have H12_1n := Aside0.mk (Hd.move (Hd.move (Hd.move (H12_1.out) F26.out (.inr (Nat.zero_le _))) F27.out (.inr (Nat.zero_le _))) F28.out (.inr (Nat.zero_le _)))
  clear H12_1
  have H12_1 := H12_1n
  clear H12_1n
  have H12_2n := Aside0.mk (Hd.move (Hd.move (Hd.move (H12_2.out) F26.out (.inr (Nat.zero_le _))) F27.out (.inr (Nat.zero_le _))) F28.out (.inr (Nat.zero_le _)))
  clear H12_2
  have H12_2 := H12_2n
  clear H12_2n
  have H12_3n := Aside0.mk (Hd.move (Hd.move (Hd.move (H12_3.out) F26.out (.inr (Nat.zero_le _))) F27.out (.inr (Nat.zero_le _))) F28.out (.inr (Nat.zero_le _)))
  clear H12_3
  have H12_3 := H12_3n
  clear H12_3n
  have KC29 := Aside0.mk (laws_heldCase.calls k _ _ mR0 _ _ mR1 _ _ mR2 _ _ mR3 (1) m (w28) (Hd.C H12_0.out) (Hd.cap H12_0.out) (Hd.C H12_1.out) (Hd.cap H12_1.out) (Hd.C H12_2.out) (Hd.cap H12_2.out) (Hd.C H12_3.out) (Hd.cap H12_3.out) (F_held.out))
  rw [L_lnR0.out, L_lnR1.out, L_lnR2.out, L_lnR3.out] at KC29
  go_wp2_with (first | (go_at_call 11; (with_reducible refine (KC29.out).mono ?_); rintro e w29 ⟨rfl, hb⟩; have D29 := Aside0.mk hb; clear hb; have F29 := Aside0.mk (Fr.of_below D29.out); have HBn := Aside0.mk (below_step HB.out D29.out); clear HB; have HB := HBn; clear HBn; have G29 := Aside0.mk F29.out.1; have HB29 := Aside0.mk HB.out.size))
  go_ret
  exact ⟨by first | rfl | (simp; done), HB.out⟩
set_option maxRecDepth 100000 in
theorem laws_FnExactJoinCases.large0 (k : Nat) (A0_0 : Option Addr) (c0_0 : Nat) (l0_0 : List Int) (A0_1 : Option Addr) (c0_1 : Nat) (l0_1 : List Int) (A0_2 : Option Addr) (c0_2 : Nat) (l0_2 : List Int) (A0_3 : Option Addr) (c0_3 : Nat) (l0_3 : List Int) (A1_0 : Option Addr) (c1_0 : Nat) (l1_0 : List Int) (A1_1 : Option Addr) (c1_1 : Nat) (l1_1 : List Int) (A1_2 : Option Addr) (c1_2 : Nat) (l1_2 : List Int) (A1_3 : Option Addr) (c1_3 : Nat) (l1_3 : List Int) (w : World) (hr0_0 : Kd.C (Kd.int .i64) w A0_0 l0_0.length l0_0) (hc0_0 : l0_0.length ≤ c0_0) (hr0_1 : Kd.C (Kd.int .i64) w A0_1 l0_1.length l0_1) (hc0_1 : l0_1.length ≤ c0_1) (hr0_2 : Kd.C (Kd.int .i64) w A0_2 l0_2.length l0_2) (hc0_2 : l0_2.length ≤ c0_2) (hr0_3 : Kd.C (Kd.int .i64) w A0_3 l0_3.length l0_3) (hc0_3 : l0_3.length ≤ c0_3) (hr1_0 : Kd.C (Kd.int .i64) w A1_0 l1_0.length l1_0) (hc1_0 : l1_0.length ≤ c1_0) (hr1_1 : Kd.C (Kd.int .i64) w A1_1 l1_1.length l1_1) (hc1_1 : l1_1.length ≤ c1_1) (hr1_2 : Kd.C (Kd.int .i64) w A1_2 l1_2.length l1_2) (hc1_2 : l1_2.length ≤ c1_2) (hr1_3 : Kd.C (Kd.int .i64) w A1_3 l1_3.length l1_3) (hc1_3 : l1_3.length ≤ c1_3) (q0 : Int) (f_sz0 : laws_szCase.f l0_0 l0_1 l0_2 l0_3 (1048576) = some q0) (f_neg : q0 < 0) :
    Calls Try.prog 4 #[.agg #[.slice A0_0 l0_0.length c0_0, .slice A0_1 l0_1.length c0_1, .slice A0_2 l0_2.length c0_2, .slice A0_3 l0_3.length c0_3], .agg #[.slice A1_0 l1_0.length c1_0, .slice A1_1 l1_1.length c1_1, .slice A1_2 l1_2.length c1_2, .slice A1_3 l1_3.length c1_3]] w fun e w' => e = .returned (.bool true) ∧ Below w.heap.size w w' := by
  have HR0_0 := Aside0.mk hr0_0
  have HC0_0 := Aside0.mk hc0_0
  clear hr0_0 hc0_0
  have HR0_1 := Aside0.mk hr0_1
  have HC0_1 := Aside0.mk hc0_1
  clear hr0_1 hc0_1
  have HR0_2 := Aside0.mk hr0_2
  have HC0_2 := Aside0.mk hc0_2
  clear hr0_2 hc0_2
  have HR0_3 := Aside0.mk hr0_3
  have HC0_3 := Aside0.mk hc0_3
  clear hr0_3 hc0_3
  have HR1_0 := Aside0.mk hr1_0
  have HC1_0 := Aside0.mk hc1_0
  clear hr1_0 hc1_0
  have HR1_1 := Aside0.mk hr1_1
  have HC1_1 := Aside0.mk hc1_1
  clear hr1_1 hc1_1
  have HR1_2 := Aside0.mk hr1_2
  have HC1_2 := Aside0.mk hc1_2
  clear hr1_2 hc1_2
  have HR1_3 := Aside0.mk hr1_3
  have HC1_3 := Aside0.mk hc1_3
  clear hr1_3 hc1_3
  have HB := Aside0.mk (Below.refl w.heap.size w)
  have HB0 := Aside0.mk HB.out.size
  have F_sz0 := Aside0.mk f_sz0
  clear f_sz0
  have t_neg : decide (q0 < 0) = true := decide_eq_true f_neg
  clear f_neg
  go_enter Try.func4, Try.ntmps4
  go_wp2_with (first | ((with_reducible refine gate_dst (N := 2) rfl ?_); refine box_event ?hg (N := 2) ?hd (cs := #[.slice A0_0 l0_0.length c0_0, .slice A0_1 l0_1.length c0_1, .slice A0_2 l0_2.length c0_2, .slice A0_3 l0_3.length c0_3]) (t := 24) ?hr ?_; (case hd => rfl); (case hg => rfl); (case hr => first | (go_simp; done) | (go_simp; rfl)); intro g2 hg w1 hbox hb; have BK_paA := Aside0.mk hbox; have NB_paA := Aside0.mk (show w.heap.size ≤ g2 ∧ g2 < w1.heap.size from ⟨Nat.le_of_eq hg.symm, blk_lt hbox⟩); have D1 := Aside0.mk hb; clear hbox hg hb; have F1 := Aside0.mk (Fr.of_below D1.out); have HBn := Aside0.mk (below_step HB.out D1.out); clear HB; have HB := HBn; clear HBn; have G1 := Aside0.mk F1.out.1; have HB1 := Aside0.mk HB.out.size; clear D1) | ((with_reducible refine gate_dst (N := 3) rfl ?_); refine box_event ?hg (N := 3) ?hd (cs := #[.slice A1_0 l1_0.length c1_0, .slice A1_1 l1_1.length c1_1, .slice A1_2 l1_2.length c1_2, .slice A1_3 l1_3.length c1_3]) (t := 24) ?hr ?_; (case hd => rfl); (case hg => rfl); (case hr => first | (go_simp; done) | (go_simp; rfl)); intro g3 hg w2 hbox hb; have BK_paB := Aside0.mk hbox; have NB_paB := Aside0.mk (show w1.heap.size ≤ g3 ∧ g3 < w2.heap.size from ⟨Nat.le_of_eq hg.symm, blk_lt hbox⟩); have D2 := Aside0.mk hb; clear hbox hg hb; have F2 := Aside0.mk (Fr.of_below D2.out); have HBn := Aside0.mk (below_step HB.out D2.out); clear HB; have HB := HBn; clear HBn; have G2 := Aside0.mk F2.out.1; have HB2 := Aside0.mk HB.out.size; clear D2; have BK_paAn := Aside0.mk (Fr.blk (BK_paA.out) F2.out (.inr (Nat.zero_le _))); clear BK_paA; have BK_paA := BK_paAn; clear BK_paAn; have hc_paA_0 : w2.cell? ⟨g2, 0, none⟩ = some (.slice A0_0 l0_0.length c0_0) := (blk_cell BK_paA.out 0).trans rfl; have hc_paA_1 : w2.cell? ⟨g2, 1, none⟩ = some (.slice A0_1 l0_1.length c0_1) := (blk_cell BK_paA.out 1).trans rfl; have hc_paA_2 : w2.cell? ⟨g2, 2, none⟩ = some (.slice A0_2 l0_2.length c0_2) := (blk_cell BK_paA.out 2).trans rfl; have hc_paA_3 : w2.cell? ⟨g2, 3, none⟩ = some (.slice A0_3 l0_3.length c0_3) := (blk_cell BK_paA.out 3).trans rfl))
  go_wp2_with (first | (go_at_call 5; (with_reducible refine (laws_szCase.calls _ _ l0_0 _ _ l0_1 _ _ l0_2 _ _ l0_3 (1048576) q0 (w2) (Kd.C_below HR0_0.out HB.out) HC0_0.out (Kd.C_below HR0_1.out HB.out) HC0_1.out (Kd.C_below HR0_2.out HB.out) HC0_2.out (Kd.C_below HR0_3.out HB.out) HC0_3.out (F_sz0.out)).mono ?_); rintro e w3 ⟨rfl, hb⟩; have D3 := Aside0.mk hb; clear hb; have F3 := Aside0.mk (Fr.of_below D3.out); have HBn := Aside0.mk (below_step HB.out D3.out); clear HB; have HB := HBn; clear HBn; have G3 := Aside0.mk F3.out.1; have HB3 := Aside0.mk HB.out.size))
  go_ret
  exact ⟨by first | rfl | (simp; done), HB.out⟩
set_option maxRecDepth 100000 in
theorem laws_FnExactJoinCases.large1 (k : Nat) (A0_0 : Option Addr) (c0_0 : Nat) (l0_0 : List Int) (A0_1 : Option Addr) (c0_1 : Nat) (l0_1 : List Int) (A0_2 : Option Addr) (c0_2 : Nat) (l0_2 : List Int) (A0_3 : Option Addr) (c0_3 : Nat) (l0_3 : List Int) (A1_0 : Option Addr) (c1_0 : Nat) (l1_0 : List Int) (A1_1 : Option Addr) (c1_1 : Nat) (l1_1 : List Int) (A1_2 : Option Addr) (c1_2 : Nat) (l1_2 : List Int) (A1_3 : Option Addr) (c1_3 : Nat) (l1_3 : List Int) (w : World) (hr0_0 : Kd.C (Kd.int .i64) w A0_0 l0_0.length l0_0) (hc0_0 : l0_0.length ≤ c0_0) (hr0_1 : Kd.C (Kd.int .i64) w A0_1 l0_1.length l0_1) (hc0_1 : l0_1.length ≤ c0_1) (hr0_2 : Kd.C (Kd.int .i64) w A0_2 l0_2.length l0_2) (hc0_2 : l0_2.length ≤ c0_2) (hr0_3 : Kd.C (Kd.int .i64) w A0_3 l0_3.length l0_3) (hc0_3 : l0_3.length ≤ c0_3) (hr1_0 : Kd.C (Kd.int .i64) w A1_0 l1_0.length l1_0) (hc1_0 : l1_0.length ≤ c1_0) (hr1_1 : Kd.C (Kd.int .i64) w A1_1 l1_1.length l1_1) (hc1_1 : l1_1.length ≤ c1_1) (hr1_2 : Kd.C (Kd.int .i64) w A1_2 l1_2.length l1_2) (hc1_2 : l1_2.length ≤ c1_2) (hr1_3 : Kd.C (Kd.int .i64) w A1_3 l1_3.length l1_3) (hc1_3 : l1_3.length ≤ c1_3) (q0 : Int) (q1 : Int) (f_sz0 : laws_szCase.f l0_0 l0_1 l0_2 l0_3 (1048576) = some q0) (f_nn0 : 0 ≤ q0) (f_sz1 : laws_szCase.f l1_0 l1_1 l1_2 l1_3 (q0) = some q1) (f_neg : q1 < 0) :
    Calls Try.prog 4 #[.agg #[.slice A0_0 l0_0.length c0_0, .slice A0_1 l0_1.length c0_1, .slice A0_2 l0_2.length c0_2, .slice A0_3 l0_3.length c0_3], .agg #[.slice A1_0 l1_0.length c1_0, .slice A1_1 l1_1.length c1_1, .slice A1_2 l1_2.length c1_2, .slice A1_3 l1_3.length c1_3]] w fun e w' => e = .returned (.bool true) ∧ Below w.heap.size w w' := by
  have HR0_0 := Aside0.mk hr0_0
  have HC0_0 := Aside0.mk hc0_0
  clear hr0_0 hc0_0
  have HR0_1 := Aside0.mk hr0_1
  have HC0_1 := Aside0.mk hc0_1
  clear hr0_1 hc0_1
  have HR0_2 := Aside0.mk hr0_2
  have HC0_2 := Aside0.mk hc0_2
  clear hr0_2 hc0_2
  have HR0_3 := Aside0.mk hr0_3
  have HC0_3 := Aside0.mk hc0_3
  clear hr0_3 hc0_3
  have HR1_0 := Aside0.mk hr1_0
  have HC1_0 := Aside0.mk hc1_0
  clear hr1_0 hc1_0
  have HR1_1 := Aside0.mk hr1_1
  have HC1_1 := Aside0.mk hc1_1
  clear hr1_1 hc1_1
  have HR1_2 := Aside0.mk hr1_2
  have HC1_2 := Aside0.mk hc1_2
  clear hr1_2 hc1_2
  have HR1_3 := Aside0.mk hr1_3
  have HC1_3 := Aside0.mk hc1_3
  clear hr1_3 hc1_3
  have HB := Aside0.mk (Below.refl w.heap.size w)
  have HB0 := Aside0.mk HB.out.size
  have F_sz0 := Aside0.mk f_sz0
  clear f_sz0
  have t_nn0 : decide (q0 < 0) = false := decide_eq_false (by omega)
  clear f_nn0
  have F_sz1 := Aside0.mk f_sz1
  clear f_sz1
  have t_neg : decide (q1 < 0) = true := decide_eq_true f_neg
  clear f_neg
  go_enter Try.func4, Try.ntmps4
  go_wp2_with (first | ((with_reducible refine gate_dst (N := 2) rfl ?_); refine box_event ?hg (N := 2) ?hd (cs := #[.slice A0_0 l0_0.length c0_0, .slice A0_1 l0_1.length c0_1, .slice A0_2 l0_2.length c0_2, .slice A0_3 l0_3.length c0_3]) (t := 24) ?hr ?_; (case hd => rfl); (case hg => rfl); (case hr => first | (go_simp; done) | (go_simp; rfl)); intro g2 hg w1 hbox hb; have BK_paA := Aside0.mk hbox; have NB_paA := Aside0.mk (show w.heap.size ≤ g2 ∧ g2 < w1.heap.size from ⟨Nat.le_of_eq hg.symm, blk_lt hbox⟩); have D1 := Aside0.mk hb; clear hbox hg hb; have F1 := Aside0.mk (Fr.of_below D1.out); have HBn := Aside0.mk (below_step HB.out D1.out); clear HB; have HB := HBn; clear HBn; have G1 := Aside0.mk F1.out.1; have HB1 := Aside0.mk HB.out.size; clear D1) | ((with_reducible refine gate_dst (N := 3) rfl ?_); refine box_event ?hg (N := 3) ?hd (cs := #[.slice A1_0 l1_0.length c1_0, .slice A1_1 l1_1.length c1_1, .slice A1_2 l1_2.length c1_2, .slice A1_3 l1_3.length c1_3]) (t := 24) ?hr ?_; (case hd => rfl); (case hg => rfl); (case hr => first | (go_simp; done) | (go_simp; rfl)); intro g3 hg w2 hbox hb; have BK_paB := Aside0.mk hbox; have NB_paB := Aside0.mk (show w1.heap.size ≤ g3 ∧ g3 < w2.heap.size from ⟨Nat.le_of_eq hg.symm, blk_lt hbox⟩); have D2 := Aside0.mk hb; clear hbox hg hb; have F2 := Aside0.mk (Fr.of_below D2.out); have HBn := Aside0.mk (below_step HB.out D2.out); clear HB; have HB := HBn; clear HBn; have G2 := Aside0.mk F2.out.1; have HB2 := Aside0.mk HB.out.size; clear D2; have BK_paAn := Aside0.mk (Fr.blk (BK_paA.out) F2.out (.inr (Nat.zero_le _))); clear BK_paA; have BK_paA := BK_paAn; clear BK_paAn; have hc_paA_0 : w2.cell? ⟨g2, 0, none⟩ = some (.slice A0_0 l0_0.length c0_0) := (blk_cell BK_paA.out 0).trans rfl; have hc_paA_1 : w2.cell? ⟨g2, 1, none⟩ = some (.slice A0_1 l0_1.length c0_1) := (blk_cell BK_paA.out 1).trans rfl; have hc_paA_2 : w2.cell? ⟨g2, 2, none⟩ = some (.slice A0_2 l0_2.length c0_2) := (blk_cell BK_paA.out 2).trans rfl; have hc_paA_3 : w2.cell? ⟨g2, 3, none⟩ = some (.slice A0_3 l0_3.length c0_3) := (blk_cell BK_paA.out 3).trans rfl))
  go_wp2_with (first | (go_at_call 5; (with_reducible refine (laws_szCase.calls _ _ l0_0 _ _ l0_1 _ _ l0_2 _ _ l0_3 (1048576) q0 (w2) (Kd.C_below HR0_0.out HB.out) HC0_0.out (Kd.C_below HR0_1.out HB.out) HC0_1.out (Kd.C_below HR0_2.out HB.out) HC0_2.out (Kd.C_below HR0_3.out HB.out) HC0_3.out (F_sz0.out)).mono ?_); rintro e w3 ⟨rfl, hb⟩; have D3 := Aside0.mk hb; clear hb; have F3 := Aside0.mk (Fr.of_below D3.out); have HBn := Aside0.mk (below_step HB.out D3.out); clear HB; have HB := HBn; clear HBn; have G3 := Aside0.mk F3.out.1; have HB3 := Aside0.mk HB.out.size; have BK_paBn := Aside0.mk (Fr.blk (BK_paB.out) F3.out (.inr (Nat.zero_le _))); clear BK_paB; have BK_paB := BK_paBn; clear BK_paBn; have hc_paB_0 : w3.cell? ⟨g3, 0, none⟩ = some (.slice A1_0 l1_0.length c1_0) := (blk_cell BK_paB.out 0).trans rfl; have hc_paB_1 : w3.cell? ⟨g3, 1, none⟩ = some (.slice A1_1 l1_1.length c1_1) := (blk_cell BK_paB.out 1).trans rfl; have hc_paB_2 : w3.cell? ⟨g3, 2, none⟩ = some (.slice A1_2 l1_2.length c1_2) := (blk_cell BK_paB.out 2).trans rfl; have hc_paB_3 : w3.cell? ⟨g3, 3, none⟩ = some (.slice A1_3 l1_3.length c1_3) := (blk_cell BK_paB.out 3).trans rfl))
  go_wp2_with (first | (go_at_call 5; (with_reducible refine (laws_szCase.calls _ _ l1_0 _ _ l1_1 _ _ l1_2 _ _ l1_3 (q0) q1 (w3) (Kd.C_below HR1_0.out HB.out) HC1_0.out (Kd.C_below HR1_1.out HB.out) HC1_1.out (Kd.C_below HR1_2.out HB.out) HC1_2.out (Kd.C_below HR1_3.out HB.out) HC1_3.out (F_sz1.out)).mono ?_); rintro e w4 ⟨rfl, hb⟩; have D4 := Aside0.mk hb; clear hb; have F4 := Aside0.mk (Fr.of_below D4.out); have HBn := Aside0.mk (below_step HB.out D4.out); clear HB; have HB := HBn; clear HBn; have G4 := Aside0.mk F4.out.1; have HB4 := Aside0.mk HB.out.size))
  go_ret
  exact ⟨by first | rfl | (simp; done), HB.out⟩
/-- What the law's calls answer. -/
def laws_FnExactJoinCases.Facts (k : Nat) (l0_0 : List Int) (l0_1 : List Int) (l0_2 : List Int) (l0_3 : List Int) (l1_0 : List Int) (l1_1 : List Int) (l1_2 : List Int) (l1_3 : List Int) : Prop := (∃ (q0 : Int), (laws_szCase.f l0_0 l0_1 l0_2 l0_3 (1048576) = some q0) ∧ (q0 < 0)) ∨ (∃ (q0 : Int) (q1 : Int), (laws_szCase.f l0_0 l0_1 l0_2 l0_3 (1048576) = some q0) ∧ (0 ≤ q0) ∧ (laws_szCase.f l1_0 l1_1 l1_2 l1_3 (q0) = some q1) ∧ (q1 < 0)) ∨ laws_FnExactJoinCases.Good k l0_0 l0_1 l0_2 l0_3 l1_0 l1_1 l1_2 l1_3
theorem laws_FnExactJoinCases.calls (k : Nat) (A0_0 : Option Addr) (c0_0 : Nat) (l0_0 : List Int) (A0_1 : Option Addr) (c0_1 : Nat) (l0_1 : List Int) (A0_2 : Option Addr) (c0_2 : Nat) (l0_2 : List Int) (A0_3 : Option Addr) (c0_3 : Nat) (l0_3 : List Int) (A1_0 : Option Addr) (c1_0 : Nat) (l1_0 : List Int) (A1_1 : Option Addr) (c1_1 : Nat) (l1_1 : List Int) (A1_2 : Option Addr) (c1_2 : Nat) (l1_2 : List Int) (A1_3 : Option Addr) (c1_3 : Nat) (l1_3 : List Int) (w : World) (hr0_0 : Kd.C (Kd.int .i64) w A0_0 l0_0.length l0_0) (hc0_0 : l0_0.length ≤ c0_0) (hr0_1 : Kd.C (Kd.int .i64) w A0_1 l0_1.length l0_1) (hc0_1 : l0_1.length ≤ c0_1) (hr0_2 : Kd.C (Kd.int .i64) w A0_2 l0_2.length l0_2) (hc0_2 : l0_2.length ≤ c0_2) (hr0_3 : Kd.C (Kd.int .i64) w A0_3 l0_3.length l0_3) (hc0_3 : l0_3.length ≤ c0_3) (hr1_0 : Kd.C (Kd.int .i64) w A1_0 l1_0.length l1_0) (hc1_0 : l1_0.length ≤ c1_0) (hr1_1 : Kd.C (Kd.int .i64) w A1_1 l1_1.length l1_1) (hc1_1 : l1_1.length ≤ c1_1) (hr1_2 : Kd.C (Kd.int .i64) w A1_2 l1_2.length l1_2) (hc1_2 : l1_2.length ≤ c1_2) (hr1_3 : Kd.C (Kd.int .i64) w A1_3 l1_3.length l1_3) (hc1_3 : l1_3.length ≤ c1_3) (h : laws_FnExactJoinCases.Facts k l0_0 l0_1 l0_2 l0_3 l1_0 l1_1 l1_2 l1_3) :
    Calls Try.prog 4 #[.agg #[.slice A0_0 l0_0.length c0_0, .slice A0_1 l0_1.length c0_1, .slice A0_2 l0_2.length c0_2, .slice A0_3 l0_3.length c0_3], .agg #[.slice A1_0 l1_0.length c1_0, .slice A1_1 l1_1.length c1_1, .slice A1_2 l1_2.length c1_2, .slice A1_3 l1_3.length c1_3]] w fun e w' => e = .returned (.bool true) ∧ Below w.heap.size w w' := by
  rcases h with ⟨q0, f_sz0, f_neg⟩ | ⟨q0, q1, f_sz0, f_nn0, f_sz1, f_neg⟩ | h
  · exact laws_FnExactJoinCases.large0 k A0_0 c0_0 l0_0 A0_1 c0_1 l0_1 A0_2 c0_2 l0_2 A0_3 c0_3 l0_3 A1_0 c1_0 l1_0 A1_1 c1_1 l1_1 A1_2 c1_2 l1_2 A1_3 c1_3 l1_3 w hr0_0 hc0_0 hr0_1 hc0_1 hr0_2 hc0_2 hr0_3 hc0_3 hr1_0 hc1_0 hr1_1 hc1_1 hr1_2 hc1_2 hr1_3 hc1_3 q0 f_sz0 f_neg
  · exact laws_FnExactJoinCases.large1 k A0_0 c0_0 l0_0 A0_1 c0_1 l0_1 A0_2 c0_2 l0_2 A0_3 c0_3 l0_3 A1_0 c1_0 l1_0 A1_1 c1_1 l1_1 A1_2 c1_2 l1_2 A1_3 c1_3 l1_3 w hr0_0 hc0_0 hr0_1 hc0_1 hr0_2 hc0_2 hr0_3 hc0_3 hr1_0 hc1_0 hr1_1 hc1_1 hr1_2 hc1_2 hr1_3 hc1_3 q0 q1 f_sz0 f_nn0 f_sz1 f_neg
  · exact laws_FnExactJoinCases.good k A0_0 c0_0 l0_0 A0_1 c0_1 l0_1 A0_2 c0_2 l0_2 A0_3 c0_3 l0_3 A1_0 c1_0 l1_0 A1_1 c1_1 l1_1 A1_2 c1_2 l1_2 A1_3 c1_3 l1_3 w hr0_0 hc0_0 hr0_1 hc0_1 hr0_2 hc0_2 hr0_3 hc0_3 hr1_0 hc1_0 hr1_1 hc1_1 hr1_2 hc1_2 hr1_3 hc1_3 h
end Go.Proofs.Ytjhkbgnfdpileaa.PFnExactJoinCases
