/- Written by a program of this session (lawpc.py, as lawwalk.py): the walk of the law FnExactParseCase, where every answer on the way is known; the facts that it asks are those of the pure statement. -/
import Derived.Test.YtbdbogpmnmcaeaaDoorQFnExactParseCasex0
import Derived.Test.YtbdbogpmnmcaeaaDoorQFnExactParseCasex1
import Derived.Test.YtbdbogpmnmcaeaaDoorQFnExactParseCasex2
import Derived.Test.YtbdbogpmnmcaeaaDoorQFnExactParseCasex3
import Derived.Test.YtbdbogpmnmcaeaaDoorQFnExactParseCasex4
import Derived.Test.YtbdbogpmnmcaeaaDoorQFnExactParseCasex5
import Derived.Test.YtbdbogpmnmcaeaaDoorQFnExactParseCasex6
import Derived.Test.YtbdbogpmnmcaeaaDoorQFnExactParseCasex7
import Derived.Test.YtbdbogpmnmcaeaaDoorQFnExactParseCasex8
import Derived.Test.YtbdbogpmnmcaeaaDoorQFnExactParseCasex9
import Derived.Test.YtbdbogpmnmcaeaaDoorHold
namespace Go.Proofs.YtbdbogpmnmcaeaaDoor.PFnExactParseCase
open Go.RowKit Go.Proofs.YtbdbogpmnmcaeaaDoor.Tabs Go.Proofs.YtbdbogpmnmcaeaaDoorW.PrintWords Go.Proofs.YtbdbogpmnmcaeaaDoorW.PrintLast Go.Proofs.YtbdbogpmnmcaeaaDoorW.PrintMore Go.Proofs.YtbdbogpmnmcaeaaDoor.Hold
set_option linter.unusedVariables false
set_option linter.unusedSimpArgs false
/-- What the law's calls answer, the text not being too large. -/
def laws_FnExactParseCase.Good (k : Nat) (a0 : ByteArray) : Prop := ∃ (R0 : List Int) (R1 : List Int) (R2 : List Int) (R3 : List Int) (b : Bool) (m : Int) (mR0 : List Int) (mR1 : List Int) (mR2 : List Int) (mR3 : List Int), (¬ (a0.size : Int) > 1048576) ∧ (spec_ParseCase.f k a0 = some (R0, R1, R2, R3, b)) ∧ (impl_ParseCase.f k a0 = some (R0, R1, R2, R3, b)) ∧ (laws_eqCase.f k R0 R1 R2 R3 R0 R1 R2 R3 = some true) ∧ (laws_markCase.f k R0 R1 R2 R3 1 = some (m, mR0, mR1, mR2, mR3)) ∧ (laws_heldCase.f k mR0 mR1 mR2 mR3 1 = some m) ∧ (0 ≤ m) ∧ (mR0.length = R0.length) ∧ (mR1.length = R1.length) ∧ (mR2.length = R2.length) ∧ (mR3.length = R3.length)
set_option maxHeartbeats 8000000 in
set_option maxRecDepth 100000 in
theorem laws_FnExactParseCase.good (k : Nat) (a0 : ByteArray) (w : World) (h : laws_FnExactParseCase.Good k a0) (hT : Tabs true true true w) :
    Calls Tryd.prog 10 #[.string a0] w fun e w' => e = .returned (.bool true) ∧ Below w.heap.size w w' := by
  have HT0 := Aside0.mk hT
  clear hT
  have HB := Aside0.mk (Below.refl w.heap.size w)
  have HB0 := Aside0.mk HB.out.size
  obtain ⟨R0, R1, R2, R3, b, m, mR0, mR1, mR2, mR3, f_len, f_spec, f_impl, f_eqR, f_mkR, f_held, f_mm, f_lnR0, f_lnR1, f_lnR2, f_lnR3⟩ := h
  have t_len : decide (1048576 < (a0.size : Int)) = false := decide_eq_false f_len
  clear f_len
  have F_spec := Aside0.mk f_spec
  clear f_spec
  have F_impl := Aside0.mk f_impl
  clear f_impl
  have F_eqR := Aside0.mk f_eqR
  clear f_eqR
  have F_mkR := Aside0.mk f_mkR
  clear f_mkR
  have F_held := Aside0.mk f_held
  clear f_held
  have t_mm : decide (m < 0) = false := decide_eq_false (by omega)
  clear f_mm
  have L_lnR0 := Aside0.mk f_lnR0
  clear f_lnR0
  have L_lnR1 := Aside0.mk f_lnR1
  clear f_lnR1
  have L_lnR2 := Aside0.mk f_lnR2
  clear f_lnR2
  have L_lnR3 := Aside0.mk f_lnR3
  clear f_lnR3
  go_enter Tryd.func10, Tryd.ntmps10
  go_wp2_with (first | (go_at_call 37; (with_reducible refine (spec_ParseCase.calls k (a0) R0 R1 R2 R3 b (w) (F_spec.out)).mono ?_); rintro e w1 ⟨v1_0, v1_1, v1_2, v1_3, rfl, hn0, hn1, hn2, hn3, hb⟩; have D1 := Aside0.mk hb; clear hb; have M1_0 := Aside0.mk hn0; clear hn0; have M1_1 := Aside0.mk hn1; clear hn1; have M1_2 := Aside0.mk hn2; clear hn2; have M1_3 := Aside0.mk hn3; clear hn3; have F1 := Aside0.mk (Fr.of_below D1.out); have HBn := Aside0.mk (below_step HB.out D1.out); clear HB; have HB := HBn; clear HBn; have G1 := Aside0.mk F1.out.1; have HB1 := Aside0.mk HB.out.size; obtain ⟨a1_0, b1_0, N1_0, H1_0⟩ := Hd.new M1_0.out (B := w.heap.size) HB0.out G1.out; have N1_0 := Aside0.mk N1_0; have H1_0 := Aside0.mk H1_0; obtain ⟨a1_1, b1_1, N1_1, H1_1⟩ := Hd.new M1_1.out (B := w.heap.size) HB0.out G1.out; have N1_1 := Aside0.mk N1_1; have H1_1 := Aside0.mk H1_1; obtain ⟨a1_2, b1_2, N1_2, H1_2⟩ := Hd.new M1_2.out (B := w.heap.size) HB0.out G1.out; have N1_2 := Aside0.mk N1_2; have H1_2 := Aside0.mk H1_2; obtain ⟨a1_3, b1_3, N1_3, H1_3⟩ := Hd.new M1_3.out (B := w.heap.size) HB0.out G1.out; have N1_3 := Aside0.mk N1_3; have H1_3 := Aside0.mk H1_3; have P1_0_1 := Aside0.mk (show ∀ k_, some k_ = (v1_0 : Value).ownBlock → ¬ some k_ = (v1_1 : Value).ownBlock from fun k_ h1 h2 => (M1_0.out.1 k_ h1.symm).1 h2); have P1_0_2 := Aside0.mk (show ∀ k_, some k_ = (v1_0 : Value).ownBlock → ¬ some k_ = (v1_2 : Value).ownBlock from fun k_ h1 h2 => (M1_0.out.1 k_ h1.symm).2.1 h2); have P1_0_3 := Aside0.mk (show ∀ k_, some k_ = (v1_0 : Value).ownBlock → ¬ some k_ = (v1_3 : Value).ownBlock from fun k_ h1 h2 => (M1_0.out.1 k_ h1.symm).2.2 h2); have P1_1_0 := Aside0.mk (show ∀ k_, some k_ = (v1_1 : Value).ownBlock → ¬ some k_ = (v1_0 : Value).ownBlock from fun k_ h1 h2 => (M1_1.out.1 k_ h1.symm).1 h2); have P1_1_2 := Aside0.mk (show ∀ k_, some k_ = (v1_1 : Value).ownBlock → ¬ some k_ = (v1_2 : Value).ownBlock from fun k_ h1 h2 => (M1_1.out.1 k_ h1.symm).2.1 h2); have P1_1_3 := Aside0.mk (show ∀ k_, some k_ = (v1_1 : Value).ownBlock → ¬ some k_ = (v1_3 : Value).ownBlock from fun k_ h1 h2 => (M1_1.out.1 k_ h1.symm).2.2 h2); have P1_2_0 := Aside0.mk (show ∀ k_, some k_ = (v1_2 : Value).ownBlock → ¬ some k_ = (v1_0 : Value).ownBlock from fun k_ h1 h2 => (M1_2.out.1 k_ h1.symm).1 h2); have P1_2_1 := Aside0.mk (show ∀ k_, some k_ = (v1_2 : Value).ownBlock → ¬ some k_ = (v1_1 : Value).ownBlock from fun k_ h1 h2 => (M1_2.out.1 k_ h1.symm).2.1 h2); have P1_2_3 := Aside0.mk (show ∀ k_, some k_ = (v1_2 : Value).ownBlock → ¬ some k_ = (v1_3 : Value).ownBlock from fun k_ h1 h2 => (M1_2.out.1 k_ h1.symm).2.2 h2); have P1_3_0 := Aside0.mk (show ∀ k_, some k_ = (v1_3 : Value).ownBlock → ¬ some k_ = (v1_0 : Value).ownBlock from fun k_ h1 h2 => (M1_3.out.1 k_ h1.symm).1 h2); have P1_3_1 := Aside0.mk (show ∀ k_, some k_ = (v1_3 : Value).ownBlock → ¬ some k_ = (v1_1 : Value).ownBlock from fun k_ h1 h2 => (M1_3.out.1 k_ h1.symm).2.1 h2); have P1_3_2 := Aside0.mk (show ∀ k_, some k_ = (v1_3 : Value).ownBlock → ¬ some k_ = (v1_2 : Value).ownBlock from fun k_ h1 h2 => (M1_3.out.1 k_ h1.symm).2.2 h2); clear M1_0 M1_1 M1_2 M1_3; obtain ⟨A1_0, c1_0, e1_0⟩ := Hd.form H1_0.out; subst e1_0; obtain ⟨A1_1, c1_1, e1_1⟩ := Hd.form H1_1.out; subst e1_1; obtain ⟨A1_2, c1_2, e1_2⟩ := Hd.form H1_2.out; subst e1_2; obtain ⟨A1_3, c1_3, e1_3⟩ := Hd.form H1_3.out; subst e1_3) | ((with_reducible refine gate_dst (N := 3) rfl ?_); refine box_event ?hg (N := 3) ?hd (cs := #[.slice none 0 0, .slice none 0 0, .slice none 0 0, .slice none 0 0]) (t := 47) ?hr ?_; (case hd => rfl); (case hg => rfl); (case hr => first | (go_simp; done) | (go_simp; rfl)); intro g3 hg w2 hbox hb; have BK_w0 := Aside0.mk hbox; have NB_w0 := Aside0.mk (show w1.heap.size ≤ g3 ∧ g3 < w2.heap.size from ⟨Nat.le_of_eq hg.symm, blk_lt hbox⟩); have D2 := Aside0.mk hb; clear hbox hg hb; have F2 := Aside0.mk (Fr.of_below D2.out); have HBn := Aside0.mk (below_step HB.out D2.out); clear HB; have HB := HBn; clear HBn; have G2 := Aside0.mk F2.out.1; have HB2 := Aside0.mk HB.out.size; clear D2; have hz_0 := (blk_cell BK_w0.out 0).trans (show _ = some (.slice none 0 0 : Value) from rfl); have hf_0 := blk_frozen BK_w0.out 0; have hz_1 := (blk_cell BK_w0.out 1).trans (show _ = some (.slice none 0 0 : Value) from rfl); have hf_1 := blk_frozen BK_w0.out 1; have hz_2 := (blk_cell BK_w0.out 2).trans (show _ = some (.slice none 0 0 : Value) from rfl); have hf_2 := blk_frozen BK_w0.out 2; have hz_3 := (blk_cell BK_w0.out 3).trans (show _ = some (.slice none 0 0 : Value) from rfl); have hf_3 := blk_frozen BK_w0.out 3))
  generalize hw3 : (World.setCell (World.setCell (World.setCell (World.setCell w2 ⟨g3, 0, none⟩ (.slice A1_0 R0.length c1_0)) ⟨g3, 1, none⟩ (.slice A1_1 R1.length c1_1)) ⟨g3, 2, none⟩ (.slice A1_2 R2.length c1_2)) ⟨g3, 3, none⟩ (.slice A1_3 R3.length c1_3)) = w3
  have S3 := stored4 BK_w0.out HB.out (by have := NB_w0.out; have := HB1.out; omega) (.slice A1_0 R0.length c1_0) (.slice A1_1 R1.length c1_1) (.slice A1_2 R2.length c1_2) (.slice A1_3 R3.length c1_3)
  rw [hw3] at S3
  clear hw3 hz_0 hz_1 hz_2 hz_3 hf_0 hf_1 hf_2 hf_3 
  have BK_w0n := Aside0.mk S3.1
  clear BK_w0
  have BK_w0 := BK_w0n
  clear BK_w0n
  have F3 := Aside0.mk (S3.2.1)
  have HBn := Aside0.mk (S3.2.2)
  clear HB
  have HB := HBn
  clear HBn
  have G3 := Aside0.mk F3.out.1
  have HB3 := Aside0.mk HB.out.size
  clear S3
  go_wp2_with (first | (go_at_call 38; (with_reducible refine (impl_ParseCase.calls k (a0) R0 R1 R2 R3 b (w3) (F_impl.out) (Tabs.below HT0.out HB.out)).mono ?_); rintro e w4 ⟨v4_0, v4_1, v4_2, v4_3, rfl, hn0, hn1, hn2, hn3, hb⟩; have D4 := Aside0.mk hb; clear hb; have M4_0 := Aside0.mk hn0; clear hn0; have M4_1 := Aside0.mk hn1; clear hn1; have M4_2 := Aside0.mk hn2; clear hn2; have M4_3 := Aside0.mk hn3; clear hn3; have F4 := Aside0.mk (Fr.of_below D4.out); have HBn := Aside0.mk (below_step HB.out D4.out); clear HB; have HB := HBn; clear HBn; have G4 := Aside0.mk F4.out.1; have HB4 := Aside0.mk HB.out.size; obtain ⟨a4_0, b4_0, N4_0, H4_0⟩ := Hd.new M4_0.out (B := w.heap.size) HB3.out G4.out; have N4_0 := Aside0.mk N4_0; have H4_0 := Aside0.mk H4_0; obtain ⟨a4_1, b4_1, N4_1, H4_1⟩ := Hd.new M4_1.out (B := w.heap.size) HB3.out G4.out; have N4_1 := Aside0.mk N4_1; have H4_1 := Aside0.mk H4_1; obtain ⟨a4_2, b4_2, N4_2, H4_2⟩ := Hd.new M4_2.out (B := w.heap.size) HB3.out G4.out; have N4_2 := Aside0.mk N4_2; have H4_2 := Aside0.mk H4_2; obtain ⟨a4_3, b4_3, N4_3, H4_3⟩ := Hd.new M4_3.out (B := w.heap.size) HB3.out G4.out; have N4_3 := Aside0.mk N4_3; have H4_3 := Aside0.mk H4_3; have P4_0_1 := Aside0.mk (show ∀ k_, some k_ = (v4_0 : Value).ownBlock → ¬ some k_ = (v4_1 : Value).ownBlock from fun k_ h1 h2 => (M4_0.out.1 k_ h1.symm).1 h2); have P4_0_2 := Aside0.mk (show ∀ k_, some k_ = (v4_0 : Value).ownBlock → ¬ some k_ = (v4_2 : Value).ownBlock from fun k_ h1 h2 => (M4_0.out.1 k_ h1.symm).2.1 h2); have P4_0_3 := Aside0.mk (show ∀ k_, some k_ = (v4_0 : Value).ownBlock → ¬ some k_ = (v4_3 : Value).ownBlock from fun k_ h1 h2 => (M4_0.out.1 k_ h1.symm).2.2 h2); have P4_1_0 := Aside0.mk (show ∀ k_, some k_ = (v4_1 : Value).ownBlock → ¬ some k_ = (v4_0 : Value).ownBlock from fun k_ h1 h2 => (M4_1.out.1 k_ h1.symm).1 h2); have P4_1_2 := Aside0.mk (show ∀ k_, some k_ = (v4_1 : Value).ownBlock → ¬ some k_ = (v4_2 : Value).ownBlock from fun k_ h1 h2 => (M4_1.out.1 k_ h1.symm).2.1 h2); have P4_1_3 := Aside0.mk (show ∀ k_, some k_ = (v4_1 : Value).ownBlock → ¬ some k_ = (v4_3 : Value).ownBlock from fun k_ h1 h2 => (M4_1.out.1 k_ h1.symm).2.2 h2); have P4_2_0 := Aside0.mk (show ∀ k_, some k_ = (v4_2 : Value).ownBlock → ¬ some k_ = (v4_0 : Value).ownBlock from fun k_ h1 h2 => (M4_2.out.1 k_ h1.symm).1 h2); have P4_2_1 := Aside0.mk (show ∀ k_, some k_ = (v4_2 : Value).ownBlock → ¬ some k_ = (v4_1 : Value).ownBlock from fun k_ h1 h2 => (M4_2.out.1 k_ h1.symm).2.1 h2); have P4_2_3 := Aside0.mk (show ∀ k_, some k_ = (v4_2 : Value).ownBlock → ¬ some k_ = (v4_3 : Value).ownBlock from fun k_ h1 h2 => (M4_2.out.1 k_ h1.symm).2.2 h2); have P4_3_0 := Aside0.mk (show ∀ k_, some k_ = (v4_3 : Value).ownBlock → ¬ some k_ = (v4_0 : Value).ownBlock from fun k_ h1 h2 => (M4_3.out.1 k_ h1.symm).1 h2); have P4_3_1 := Aside0.mk (show ∀ k_, some k_ = (v4_3 : Value).ownBlock → ¬ some k_ = (v4_1 : Value).ownBlock from fun k_ h1 h2 => (M4_3.out.1 k_ h1.symm).2.1 h2); have P4_3_2 := Aside0.mk (show ∀ k_, some k_ = (v4_3 : Value).ownBlock → ¬ some k_ = (v4_2 : Value).ownBlock from fun k_ h1 h2 => (M4_3.out.1 k_ h1.symm).2.2 h2); clear M4_0 M4_1 M4_2 M4_3; obtain ⟨A4_0, c4_0, e4_0⟩ := Hd.form H4_0.out; subst e4_0; obtain ⟨A4_1, c4_1, e4_1⟩ := Hd.form H4_1.out; subst e4_1; obtain ⟨A4_2, c4_2, e4_2⟩ := Hd.form H4_2.out; subst e4_2; obtain ⟨A4_3, c4_3, e4_3⟩ := Hd.form H4_3.out; subst e4_3) | ((with_reducible refine gate_dst (N := 5) rfl ?_); refine box_event ?hg (N := 5) ?hd (cs := #[.slice none 0 0, .slice none 0 0, .slice none 0 0, .slice none 0 0]) (t := 47) ?hr ?_; (case hd => rfl); (case hg => rfl); (case hr => first | (go_simp; done) | (go_simp; rfl)); intro g5 hg w5 hbox hb; have BK_g0 := Aside0.mk hbox; have NB_g0 := Aside0.mk (show w4.heap.size ≤ g5 ∧ g5 < w5.heap.size from ⟨Nat.le_of_eq hg.symm, blk_lt hbox⟩); have D5 := Aside0.mk hb; clear hbox hg hb; have F5 := Aside0.mk (Fr.of_below D5.out); have HBn := Aside0.mk (below_step HB.out D5.out); clear HB; have HB := HBn; clear HBn; have G5 := Aside0.mk F5.out.1; have HB5 := Aside0.mk HB.out.size; clear D5; have BK_w0n := Aside0.mk (Fr.blk (Fr.blk (BK_w0.out) F4.out (.inr (Nat.zero_le _))) F5.out (.inr (Nat.zero_le _))); clear BK_w0; have BK_w0 := BK_w0n; clear BK_w0n; have hc_w0_0 : w5.cell? ⟨g3, 0, none⟩ = some (.slice A1_0 R0.length c1_0) := (blk_cell BK_w0.out 0).trans rfl; have hc_w0_1 : w5.cell? ⟨g3, 1, none⟩ = some (.slice A1_1 R1.length c1_1) := (blk_cell BK_w0.out 1).trans rfl; have hc_w0_2 : w5.cell? ⟨g3, 2, none⟩ = some (.slice A1_2 R2.length c1_2) := (blk_cell BK_w0.out 2).trans rfl; have hc_w0_3 : w5.cell? ⟨g3, 3, none⟩ = some (.slice A1_3 R3.length c1_3) := (blk_cell BK_w0.out 3).trans rfl; have hz_0 := (blk_cell BK_g0.out 0).trans (show _ = some (.slice none 0 0 : Value) from rfl); have hf_0 := blk_frozen BK_g0.out 0; have hz_1 := (blk_cell BK_g0.out 1).trans (show _ = some (.slice none 0 0 : Value) from rfl); have hf_1 := blk_frozen BK_g0.out 1; have hz_2 := (blk_cell BK_g0.out 2).trans (show _ = some (.slice none 0 0 : Value) from rfl); have hf_2 := blk_frozen BK_g0.out 2; have hz_3 := (blk_cell BK_g0.out 3).trans (show _ = some (.slice none 0 0 : Value) from rfl); have hf_3 := blk_frozen BK_g0.out 3; have ne_w0 : g3 ≠ g5 := by have := NB_w0.out; have := NB_g0.out; have := G3.out; have := G4.out; omega))
  generalize hw6 : (World.setCell (World.setCell (World.setCell (World.setCell w5 ⟨g5, 0, none⟩ (.slice A4_0 R0.length c4_0)) ⟨g5, 1, none⟩ (.slice A4_1 R1.length c4_1)) ⟨g5, 2, none⟩ (.slice A4_2 R2.length c4_2)) ⟨g5, 3, none⟩ (.slice A4_3 R3.length c4_3)) = w6
  have S6 := stored4 BK_g0.out HB.out (by have := NB_g0.out; have := HB4.out; omega) (.slice A4_0 R0.length c4_0) (.slice A4_1 R1.length c4_1) (.slice A4_2 R2.length c4_2) (.slice A4_3 R3.length c4_3)
  rw [hw6] at S6
  clear hw6 hz_0 hz_1 hz_2 hz_3 hf_0 hf_1 hf_2 hf_3 ne_w0
  clear hc_w0_0 hc_w0_1 hc_w0_2 hc_w0_3
  have BK_g0n := Aside0.mk S6.1
  clear BK_g0
  have BK_g0 := BK_g0n
  clear BK_g0n
  have F6 := Aside0.mk (S6.2.1)
  have HBn := Aside0.mk (S6.2.2)
  clear HB
  have HB := HBn
  clear HBn
  have G6 := Aside0.mk F6.out.1
  have HB6 := Aside0.mk HB.out.size
  clear S6
  have H4_0n := Aside0.mk (Hd.move (Hd.move (H4_0.out) F5.out (.inr (Nat.zero_le _))) F6.out (by have := N4_0.out; have := NB_g0.out; left; omega))
  clear H4_0
  have H4_0 := H4_0n
  clear H4_0n
  have H4_1n := Aside0.mk (Hd.move (Hd.move (H4_1.out) F5.out (.inr (Nat.zero_le _))) F6.out (by have := N4_1.out; have := NB_g0.out; left; omega))
  clear H4_1
  have H4_1 := H4_1n
  clear H4_1n
  have H4_2n := Aside0.mk (Hd.move (Hd.move (H4_2.out) F5.out (.inr (Nat.zero_le _))) F6.out (by have := N4_2.out; have := NB_g0.out; left; omega))
  clear H4_2
  have H4_2 := H4_2n
  clear H4_2n
  have H4_3n := Aside0.mk (Hd.move (Hd.move (H4_3.out) F5.out (.inr (Nat.zero_le _))) F6.out (by have := N4_3.out; have := NB_g0.out; left; omega))
  clear H4_3
  have H4_3 := H4_3n
  clear H4_3n
  have H1_0n := Aside0.mk (Hd.move (Hd.move (Hd.move (Hd.move (Hd.move (H1_0.out) F2.out (.inr (Nat.zero_le _))) F3.out (by have := N1_0.out; have := NB_w0.out; left; omega)) F4.out (.inr (Nat.zero_le _))) F5.out (.inr (Nat.zero_le _))) F6.out (by have := N1_0.out; have := NB_g0.out; have := G2.out; have := G3.out; have := G4.out; left; omega))
  clear H1_0
  have H1_0 := H1_0n
  clear H1_0n
  have H1_1n := Aside0.mk (Hd.move (Hd.move (Hd.move (Hd.move (Hd.move (H1_1.out) F2.out (.inr (Nat.zero_le _))) F3.out (by have := N1_1.out; have := NB_w0.out; left; omega)) F4.out (.inr (Nat.zero_le _))) F5.out (.inr (Nat.zero_le _))) F6.out (by have := N1_1.out; have := NB_g0.out; have := G2.out; have := G3.out; have := G4.out; left; omega))
  clear H1_1
  have H1_1 := H1_1n
  clear H1_1n
  have H1_2n := Aside0.mk (Hd.move (Hd.move (Hd.move (Hd.move (Hd.move (H1_2.out) F2.out (.inr (Nat.zero_le _))) F3.out (by have := N1_2.out; have := NB_w0.out; left; omega)) F4.out (.inr (Nat.zero_le _))) F5.out (.inr (Nat.zero_le _))) F6.out (by have := N1_2.out; have := NB_g0.out; have := G2.out; have := G3.out; have := G4.out; left; omega))
  clear H1_2
  have H1_2 := H1_2n
  clear H1_2n
  have H1_3n := Aside0.mk (Hd.move (Hd.move (Hd.move (Hd.move (Hd.move (H1_3.out) F2.out (.inr (Nat.zero_le _))) F3.out (by have := N1_3.out; have := NB_w0.out; left; omega)) F4.out (.inr (Nat.zero_le _))) F5.out (.inr (Nat.zero_le _))) F6.out (by have := N1_3.out; have := NB_g0.out; have := G2.out; have := G3.out; have := G4.out; left; omega))
  clear H1_3
  have H1_3 := H1_3n
  clear H1_3n
  go_wp2_with (first | (go_at_call 39; (with_reducible refine (laws_eqCase.calls k _ _ R0 _ _ R1 _ _ R2 _ _ R3 _ _ R0 _ _ R1 _ _ R2 _ _ R3 true (w6) (Hd.C H4_0.out) (Hd.cap H4_0.out) (Hd.C H4_1.out) (Hd.cap H4_1.out) (Hd.C H4_2.out) (Hd.cap H4_2.out) (Hd.C H4_3.out) (Hd.cap H4_3.out) (Hd.C H1_0.out) (Hd.cap H1_0.out) (Hd.C H1_1.out) (Hd.cap H1_1.out) (Hd.C H1_2.out) (Hd.cap H1_2.out) (Hd.C H1_3.out) (Hd.cap H1_3.out) (F_eqR.out)).mono ?_); rintro e w7 ⟨rfl, hb⟩; have D7 := Aside0.mk hb; clear hb; have F7 := Aside0.mk (Fr.of_below D7.out); have HBn := Aside0.mk (below_step HB.out D7.out); clear HB; have HB := HBn; clear HBn; have G7 := Aside0.mk F7.out.1; have HB7 := Aside0.mk HB.out.size; have BK_g0n := Aside0.mk (Fr.blk (BK_g0.out) F7.out (.inr (Nat.zero_le _))); clear BK_g0; have BK_g0 := BK_g0n; clear BK_g0n; have hc_g0_0 : w7.cell? ⟨g5, 0, none⟩ = some (.slice A4_0 R0.length c4_0) := (blk_cell BK_g0.out 0).trans rfl; have hc_g0_1 : w7.cell? ⟨g5, 1, none⟩ = some (.slice A4_1 R1.length c4_1) := (blk_cell BK_g0.out 1).trans rfl; have hc_g0_2 : w7.cell? ⟨g5, 2, none⟩ = some (.slice A4_2 R2.length c4_2) := (blk_cell BK_g0.out 2).trans rfl; have hc_g0_3 : w7.cell? ⟨g5, 3, none⟩ = some (.slice A4_3 R3.length c4_3) := (blk_cell BK_g0.out 3).trans rfl))
  have H4_0n := Aside0.mk (Hd.move (H4_0.out) F7.out (.inr (Nat.zero_le _)))
  clear H4_0
  have H4_0 := H4_0n
  clear H4_0n
  have H4_1n := Aside0.mk (Hd.move (H4_1.out) F7.out (.inr (Nat.zero_le _)))
  clear H4_1
  have H4_1 := H4_1n
  clear H4_1n
  have H4_2n := Aside0.mk (Hd.move (H4_2.out) F7.out (.inr (Nat.zero_le _)))
  clear H4_2
  have H4_2 := H4_2n
  clear H4_2n
  have H4_3n := Aside0.mk (Hd.move (H4_3.out) F7.out (.inr (Nat.zero_le _)))
  clear H4_3
  have H4_3 := H4_3n
  clear H4_3n
  go_wp2_with (first | (go_at_call 40; (with_reducible refine (laws_markCase.calls k (fun k_ => some k_ = (.slice A4_0 R0.length c4_0 : Value).ownBlock) _ R0 (fun k_ => some k_ = (.slice A4_1 R1.length c4_1 : Value).ownBlock) _ R1 (fun k_ => some k_ = (.slice A4_2 R2.length c4_2 : Value).ownBlock) _ R2 (fun k_ => some k_ = (.slice A4_3 R3.length c4_3 : Value).ownBlock) _ R3 (1) m mR0 mR1 mR2 mR3 w (w7) HB.out (Hd.tight H4_0.out rfl) P4_0_1.out P4_0_2.out P4_0_3.out (Hd.tight H4_1.out rfl) P4_1_0.out P4_1_2.out P4_1_3.out (Hd.tight H4_2.out rfl) P4_2_0.out P4_2_1.out P4_2_3.out (Hd.tight H4_3.out rfl) P4_3_0.out P4_3_1.out P4_3_2.out (F_mkR.out)).mono ?_); rintro e w8 ⟨rfl, hm0, hm1, hm2, hm3, hb, hk⟩; have K8 := Aside0.mk hk; have KB8 := Aside0.mk hb; have M8_0 := Aside0.mk hm0; have M8_1 := Aside0.mk hm1; have M8_2 := Aside0.mk hm2; have M8_3 := Aside0.mk hm3; clear hb hk hm0 hm1 hm2 hm3; have F8 := Aside0.mk (Fr.of_kept K8.out (p := w3.heap.size) (q := w4.heap.size) (fun k_ hk => hk.elim (fun hk => (by have := Hd.within H4_0.out k_ hk; have := N4_0.out; omega)) (fun hk => hk.elim (fun hk => (by have := Hd.within H4_1.out k_ hk; have := N4_1.out; omega)) (fun hk => hk.elim (fun hk => (by have := Hd.within H4_2.out k_ hk; have := N4_2.out; omega)) (fun hk => (by have := Hd.within H4_3.out k_ hk; have := N4_3.out; omega)))))); have HBn := Aside0.mk (KB8.out); clear HB; have HB := HBn; clear HBn; have G8 := Aside0.mk F8.out.1; have HB8 := Aside0.mk HB.out.size; have H4_0n := Aside0.mk (show Hd (Kd.int .i64) 3 w8 w.heap.size a4_0 b4_0 (.slice A4_0 mR0.length c4_0) mR0 from by rw [L_lnR0.out]; exact Hd.marked H4_0.out rfl M8_0.out); clear H4_0 M8_0; have H4_0 := H4_0n; clear H4_0n; have H4_1n := Aside0.mk (show Hd (Kd.int .i64) 3 w8 w.heap.size a4_1 b4_1 (.slice A4_1 mR1.length c4_1) mR1 from by rw [L_lnR1.out]; exact Hd.marked H4_1.out rfl M8_1.out); clear H4_1 M8_1; have H4_1 := H4_1n; clear H4_1n; have H4_2n := Aside0.mk (show Hd (Kd.int .i64) 3 w8 w.heap.size a4_2 b4_2 (.slice A4_2 mR2.length c4_2) mR2 from by rw [L_lnR2.out]; exact Hd.marked H4_2.out rfl M8_2.out); clear H4_2 M8_2; have H4_2 := H4_2n; clear H4_2n; have H4_3n := Aside0.mk (show Hd (Kd.int .i64) 3 w8 w.heap.size a4_3 b4_3 (.slice A4_3 mR3.length c4_3) mR3 from by rw [L_lnR3.out]; exact Hd.marked H4_3.out rfl M8_3.out); clear H4_3 M8_3; have H4_3 := H4_3n; clear H4_3n; have BK_g0n := Aside0.mk (Fr.blk (BK_g0.out) F8.out (by have := NB_g0.out; right; omega)); clear BK_g0; have BK_g0 := BK_g0n; clear BK_g0n; clear hc_g0_0; have hc_g0_0 : w8.cell? ⟨g5, 0, none⟩ = some (.slice A4_0 R0.length c4_0) := (blk_cell BK_g0.out 0).trans rfl; clear hc_g0_1; have hc_g0_1 : w8.cell? ⟨g5, 1, none⟩ = some (.slice A4_1 R1.length c4_1) := (blk_cell BK_g0.out 1).trans rfl; clear hc_g0_2; have hc_g0_2 : w8.cell? ⟨g5, 2, none⟩ = some (.slice A4_2 R2.length c4_2) := (blk_cell BK_g0.out 2).trans rfl; clear hc_g0_3; have hc_g0_3 : w8.cell? ⟨g5, 3, none⟩ = some (.slice A4_3 R3.length c4_3) := (blk_cell BK_g0.out 3).trans rfl))
  have KC9 := Aside0.mk (laws_heldCase.calls k _ _ mR0 _ _ mR1 _ _ mR2 _ _ mR3 (1) m (w8) (Hd.C H4_0.out) (Hd.cap H4_0.out) (Hd.C H4_1.out) (Hd.cap H4_1.out) (Hd.C H4_2.out) (Hd.cap H4_2.out) (Hd.C H4_3.out) (Hd.cap H4_3.out) (F_held.out))
  rw [L_lnR0.out, L_lnR1.out, L_lnR2.out, L_lnR3.out] at KC9
  go_wp2_with (first | (go_at_call 41; (with_reducible refine (KC9.out).mono ?_); rintro e w9 ⟨rfl, hb⟩; have D9 := Aside0.mk hb; clear hb; have F9 := Aside0.mk (Fr.of_below D9.out); have HBn := Aside0.mk (below_step HB.out D9.out); clear HB; have HB := HBn; clear HBn; have G9 := Aside0.mk F9.out.1; have HB9 := Aside0.mk HB.out.size))
  go_wp2_with (first | (go_at_call 38; (with_reducible refine (impl_ParseCase.calls k (a0) R0 R1 R2 R3 b (w9) (F_impl.out) (Tabs.below HT0.out HB.out)).mono ?_); rintro e w10 ⟨v10_0, v10_1, v10_2, v10_3, rfl, hn0, hn1, hn2, hn3, hb⟩; have D10 := Aside0.mk hb; clear hb; have M10_0 := Aside0.mk hn0; clear hn0; have M10_1 := Aside0.mk hn1; clear hn1; have M10_2 := Aside0.mk hn2; clear hn2; have M10_3 := Aside0.mk hn3; clear hn3; have F10 := Aside0.mk (Fr.of_below D10.out); have HBn := Aside0.mk (below_step HB.out D10.out); clear HB; have HB := HBn; clear HBn; have G10 := Aside0.mk F10.out.1; have HB10 := Aside0.mk HB.out.size; obtain ⟨a10_0, b10_0, N10_0, H10_0⟩ := Hd.new M10_0.out (B := w.heap.size) HB9.out G10.out; have N10_0 := Aside0.mk N10_0; have H10_0 := Aside0.mk H10_0; obtain ⟨a10_1, b10_1, N10_1, H10_1⟩ := Hd.new M10_1.out (B := w.heap.size) HB9.out G10.out; have N10_1 := Aside0.mk N10_1; have H10_1 := Aside0.mk H10_1; obtain ⟨a10_2, b10_2, N10_2, H10_2⟩ := Hd.new M10_2.out (B := w.heap.size) HB9.out G10.out; have N10_2 := Aside0.mk N10_2; have H10_2 := Aside0.mk H10_2; obtain ⟨a10_3, b10_3, N10_3, H10_3⟩ := Hd.new M10_3.out (B := w.heap.size) HB9.out G10.out; have N10_3 := Aside0.mk N10_3; have H10_3 := Aside0.mk H10_3; have P10_0_1 := Aside0.mk (show ∀ k_, some k_ = (v10_0 : Value).ownBlock → ¬ some k_ = (v10_1 : Value).ownBlock from fun k_ h1 h2 => (M10_0.out.1 k_ h1.symm).1 h2); have P10_0_2 := Aside0.mk (show ∀ k_, some k_ = (v10_0 : Value).ownBlock → ¬ some k_ = (v10_2 : Value).ownBlock from fun k_ h1 h2 => (M10_0.out.1 k_ h1.symm).2.1 h2); have P10_0_3 := Aside0.mk (show ∀ k_, some k_ = (v10_0 : Value).ownBlock → ¬ some k_ = (v10_3 : Value).ownBlock from fun k_ h1 h2 => (M10_0.out.1 k_ h1.symm).2.2 h2); have P10_1_0 := Aside0.mk (show ∀ k_, some k_ = (v10_1 : Value).ownBlock → ¬ some k_ = (v10_0 : Value).ownBlock from fun k_ h1 h2 => (M10_1.out.1 k_ h1.symm).1 h2); have P10_1_2 := Aside0.mk (show ∀ k_, some k_ = (v10_1 : Value).ownBlock → ¬ some k_ = (v10_2 : Value).ownBlock from fun k_ h1 h2 => (M10_1.out.1 k_ h1.symm).2.1 h2); have P10_1_3 := Aside0.mk (show ∀ k_, some k_ = (v10_1 : Value).ownBlock → ¬ some k_ = (v10_3 : Value).ownBlock from fun k_ h1 h2 => (M10_1.out.1 k_ h1.symm).2.2 h2); have P10_2_0 := Aside0.mk (show ∀ k_, some k_ = (v10_2 : Value).ownBlock → ¬ some k_ = (v10_0 : Value).ownBlock from fun k_ h1 h2 => (M10_2.out.1 k_ h1.symm).1 h2); have P10_2_1 := Aside0.mk (show ∀ k_, some k_ = (v10_2 : Value).ownBlock → ¬ some k_ = (v10_1 : Value).ownBlock from fun k_ h1 h2 => (M10_2.out.1 k_ h1.symm).2.1 h2); have P10_2_3 := Aside0.mk (show ∀ k_, some k_ = (v10_2 : Value).ownBlock → ¬ some k_ = (v10_3 : Value).ownBlock from fun k_ h1 h2 => (M10_2.out.1 k_ h1.symm).2.2 h2); have P10_3_0 := Aside0.mk (show ∀ k_, some k_ = (v10_3 : Value).ownBlock → ¬ some k_ = (v10_0 : Value).ownBlock from fun k_ h1 h2 => (M10_3.out.1 k_ h1.symm).1 h2); have P10_3_1 := Aside0.mk (show ∀ k_, some k_ = (v10_3 : Value).ownBlock → ¬ some k_ = (v10_1 : Value).ownBlock from fun k_ h1 h2 => (M10_3.out.1 k_ h1.symm).2.1 h2); have P10_3_2 := Aside0.mk (show ∀ k_, some k_ = (v10_3 : Value).ownBlock → ¬ some k_ = (v10_2 : Value).ownBlock from fun k_ h1 h2 => (M10_3.out.1 k_ h1.symm).2.2 h2); clear M10_0 M10_1 M10_2 M10_3; obtain ⟨A10_0, c10_0, e10_0⟩ := Hd.form H10_0.out; subst e10_0; obtain ⟨A10_1, c10_1, e10_1⟩ := Hd.form H10_1.out; subst e10_1; obtain ⟨A10_2, c10_2, e10_2⟩ := Hd.form H10_2.out; subst e10_2; obtain ⟨A10_3, c10_3, e10_3⟩ := Hd.form H10_3.out; subst e10_3) | ((with_reducible refine gate_dst (N := 9) rfl ?_); refine box_event ?hg (N := 9) ?hd (cs := #[.slice none 0 0, .slice none 0 0, .slice none 0 0, .slice none 0 0]) (t := 47) ?hr ?_; (case hd => rfl); (case hg => rfl); (case hr => first | (go_simp; done) | (go_simp; rfl)); intro g9 hg w11 hbox hb; have BK_h0 := Aside0.mk hbox; have NB_h0 := Aside0.mk (show w10.heap.size ≤ g9 ∧ g9 < w11.heap.size from ⟨Nat.le_of_eq hg.symm, blk_lt hbox⟩); have D11 := Aside0.mk hb; clear hbox hg hb; have F11 := Aside0.mk (Fr.of_below D11.out); have HBn := Aside0.mk (below_step HB.out D11.out); clear HB; have HB := HBn; clear HBn; have G11 := Aside0.mk F11.out.1; have HB11 := Aside0.mk HB.out.size; clear D11; have BK_w0n := Aside0.mk (Fr.blk (Fr.blk (Fr.blk (Fr.blk (Fr.blk (Fr.blk (BK_w0.out) F6.out (by have := NB_w0.out; have := NB_g0.out; have := G3.out; have := G4.out; left; omega)) F7.out (.inr (Nat.zero_le _))) F8.out (by have := NB_w0.out; have := G3.out; left; omega)) F9.out (.inr (Nat.zero_le _))) F10.out (.inr (Nat.zero_le _))) F11.out (.inr (Nat.zero_le _))); clear BK_w0; have BK_w0 := BK_w0n; clear BK_w0n; have hc_w0_0 : w11.cell? ⟨g3, 0, none⟩ = some (.slice A1_0 R0.length c1_0) := (blk_cell BK_w0.out 0).trans rfl; have hc_w0_1 : w11.cell? ⟨g3, 1, none⟩ = some (.slice A1_1 R1.length c1_1) := (blk_cell BK_w0.out 1).trans rfl; have hc_w0_2 : w11.cell? ⟨g3, 2, none⟩ = some (.slice A1_2 R2.length c1_2) := (blk_cell BK_w0.out 2).trans rfl; have hc_w0_3 : w11.cell? ⟨g3, 3, none⟩ = some (.slice A1_3 R3.length c1_3) := (blk_cell BK_w0.out 3).trans rfl; have hz_0 := (blk_cell BK_h0.out 0).trans (show _ = some (.slice none 0 0 : Value) from rfl); have hf_0 := blk_frozen BK_h0.out 0; have hz_1 := (blk_cell BK_h0.out 1).trans (show _ = some (.slice none 0 0 : Value) from rfl); have hf_1 := blk_frozen BK_h0.out 1; have hz_2 := (blk_cell BK_h0.out 2).trans (show _ = some (.slice none 0 0 : Value) from rfl); have hf_2 := blk_frozen BK_h0.out 2; have hz_3 := (blk_cell BK_h0.out 3).trans (show _ = some (.slice none 0 0 : Value) from rfl); have hf_3 := blk_frozen BK_h0.out 3; have ne_w0 : g3 ≠ g9 := by have := NB_w0.out; have := NB_h0.out; have := G3.out; have := G4.out; have := G5.out; have := G6.out; have := G7.out; have := G8.out; have := G9.out; have := G10.out; omega))
  generalize hw12 : (World.setCell (World.setCell (World.setCell (World.setCell w11 ⟨g9, 0, none⟩ (.slice A10_0 R0.length c10_0)) ⟨g9, 1, none⟩ (.slice A10_1 R1.length c10_1)) ⟨g9, 2, none⟩ (.slice A10_2 R2.length c10_2)) ⟨g9, 3, none⟩ (.slice A10_3 R3.length c10_3)) = w12
  have S12 := stored4 BK_h0.out HB.out (by have := NB_h0.out; have := HB10.out; omega) (.slice A10_0 R0.length c10_0) (.slice A10_1 R1.length c10_1) (.slice A10_2 R2.length c10_2) (.slice A10_3 R3.length c10_3)
  rw [hw12] at S12
  clear hw12 hz_0 hz_1 hz_2 hz_3 hf_0 hf_1 hf_2 hf_3 ne_w0
  clear hc_g0_0 hc_g0_1 hc_g0_2 hc_g0_3 hc_w0_0 hc_w0_1 hc_w0_2 hc_w0_3
  have BK_h0n := Aside0.mk S12.1
  clear BK_h0
  have BK_h0 := BK_h0n
  clear BK_h0n
  have F12 := Aside0.mk (S12.2.1)
  have HBn := Aside0.mk (S12.2.2)
  clear HB
  have HB := HBn
  clear HBn
  have G12 := Aside0.mk F12.out.1
  have HB12 := Aside0.mk HB.out.size
  clear S12
  have H10_0n := Aside0.mk (Hd.move (Hd.move (H10_0.out) F11.out (.inr (Nat.zero_le _))) F12.out (by have := N10_0.out; have := NB_h0.out; left; omega))
  clear H10_0
  have H10_0 := H10_0n
  clear H10_0n
  have H10_1n := Aside0.mk (Hd.move (Hd.move (H10_1.out) F11.out (.inr (Nat.zero_le _))) F12.out (by have := N10_1.out; have := NB_h0.out; left; omega))
  clear H10_1
  have H10_1 := H10_1n
  clear H10_1n
  have H10_2n := Aside0.mk (Hd.move (Hd.move (H10_2.out) F11.out (.inr (Nat.zero_le _))) F12.out (by have := N10_2.out; have := NB_h0.out; left; omega))
  clear H10_2
  have H10_2 := H10_2n
  clear H10_2n
  have H10_3n := Aside0.mk (Hd.move (Hd.move (H10_3.out) F11.out (.inr (Nat.zero_le _))) F12.out (by have := N10_3.out; have := NB_h0.out; left; omega))
  clear H10_3
  have H10_3 := H10_3n
  clear H10_3n
  have H1_0n := Aside0.mk (Hd.move (Hd.move (Hd.move (Hd.move (Hd.move (Hd.move (H1_0.out) F7.out (.inr (Nat.zero_le _))) F8.out (by have := N1_0.out; have := G2.out; have := G3.out; left; omega)) F9.out (.inr (Nat.zero_le _))) F10.out (.inr (Nat.zero_le _))) F11.out (.inr (Nat.zero_le _))) F12.out (by have := N1_0.out; have := NB_h0.out; have := G2.out; have := G3.out; have := G4.out; have := G5.out; have := G6.out; have := G7.out; have := G8.out; have := G9.out; have := G10.out; left; omega))
  clear H1_0
  have H1_0 := H1_0n
  clear H1_0n
  have H1_1n := Aside0.mk (Hd.move (Hd.move (Hd.move (Hd.move (Hd.move (Hd.move (H1_1.out) F7.out (.inr (Nat.zero_le _))) F8.out (by have := N1_1.out; have := G2.out; have := G3.out; left; omega)) F9.out (.inr (Nat.zero_le _))) F10.out (.inr (Nat.zero_le _))) F11.out (.inr (Nat.zero_le _))) F12.out (by have := N1_1.out; have := NB_h0.out; have := G2.out; have := G3.out; have := G4.out; have := G5.out; have := G6.out; have := G7.out; have := G8.out; have := G9.out; have := G10.out; left; omega))
  clear H1_1
  have H1_1 := H1_1n
  clear H1_1n
  have H1_2n := Aside0.mk (Hd.move (Hd.move (Hd.move (Hd.move (Hd.move (Hd.move (H1_2.out) F7.out (.inr (Nat.zero_le _))) F8.out (by have := N1_2.out; have := G2.out; have := G3.out; left; omega)) F9.out (.inr (Nat.zero_le _))) F10.out (.inr (Nat.zero_le _))) F11.out (.inr (Nat.zero_le _))) F12.out (by have := N1_2.out; have := NB_h0.out; have := G2.out; have := G3.out; have := G4.out; have := G5.out; have := G6.out; have := G7.out; have := G8.out; have := G9.out; have := G10.out; left; omega))
  clear H1_2
  have H1_2 := H1_2n
  clear H1_2n
  have H1_3n := Aside0.mk (Hd.move (Hd.move (Hd.move (Hd.move (Hd.move (Hd.move (H1_3.out) F7.out (.inr (Nat.zero_le _))) F8.out (by have := N1_3.out; have := G2.out; have := G3.out; left; omega)) F9.out (.inr (Nat.zero_le _))) F10.out (.inr (Nat.zero_le _))) F11.out (.inr (Nat.zero_le _))) F12.out (by have := N1_3.out; have := NB_h0.out; have := G2.out; have := G3.out; have := G4.out; have := G5.out; have := G6.out; have := G7.out; have := G8.out; have := G9.out; have := G10.out; left; omega))
  clear H1_3
  have H1_3 := H1_3n
  clear H1_3n
  go_wp2_with (first | (go_at_call 39; (with_reducible refine (laws_eqCase.calls k _ _ R0 _ _ R1 _ _ R2 _ _ R3 _ _ R0 _ _ R1 _ _ R2 _ _ R3 true (w12) (Hd.C H10_0.out) (Hd.cap H10_0.out) (Hd.C H10_1.out) (Hd.cap H10_1.out) (Hd.C H10_2.out) (Hd.cap H10_2.out) (Hd.C H10_3.out) (Hd.cap H10_3.out) (Hd.C H1_0.out) (Hd.cap H1_0.out) (Hd.C H1_1.out) (Hd.cap H1_1.out) (Hd.C H1_2.out) (Hd.cap H1_2.out) (Hd.C H1_3.out) (Hd.cap H1_3.out) (F_eqR.out)).mono ?_); rintro e w13 ⟨rfl, hb⟩; have D13 := Aside0.mk hb; clear hb; have F13 := Aside0.mk (Fr.of_below D13.out); have HBn := Aside0.mk (below_step HB.out D13.out); clear HB; have HB := HBn; clear HBn; have G13 := Aside0.mk F13.out.1; have HB13 := Aside0.mk HB.out.size; have BK_g0n := Aside0.mk (Fr.blk (Fr.blk (Fr.blk (Fr.blk (Fr.blk (BK_g0.out) F9.out (.inr (Nat.zero_le _))) F10.out (.inr (Nat.zero_le _))) F11.out (.inr (Nat.zero_le _))) F12.out (by have := NB_g0.out; have := NB_h0.out; have := G6.out; have := G7.out; have := G8.out; have := G9.out; have := G10.out; left; omega)) F13.out (.inr (Nat.zero_le _))); clear BK_g0; have BK_g0 := BK_g0n; clear BK_g0n; have hc_g0_0 : w13.cell? ⟨g5, 0, none⟩ = some (.slice A4_0 R0.length c4_0) := (blk_cell BK_g0.out 0).trans rfl; have hc_g0_1 : w13.cell? ⟨g5, 1, none⟩ = some (.slice A4_1 R1.length c4_1) := (blk_cell BK_g0.out 1).trans rfl; have hc_g0_2 : w13.cell? ⟨g5, 2, none⟩ = some (.slice A4_2 R2.length c4_2) := (blk_cell BK_g0.out 2).trans rfl; have hc_g0_3 : w13.cell? ⟨g5, 3, none⟩ = some (.slice A4_3 R3.length c4_3) := (blk_cell BK_g0.out 3).trans rfl))
  have H4_0n := Aside0.mk (Hd.move (Hd.move (Hd.move (Hd.move (Hd.move (H4_0.out) F9.out (.inr (Nat.zero_le _))) F10.out (.inr (Nat.zero_le _))) F11.out (.inr (Nat.zero_le _))) F12.out (by have := N4_0.out; have := NB_h0.out; have := G5.out; have := G6.out; have := G7.out; have := G8.out; have := G9.out; have := G10.out; left; omega)) F13.out (.inr (Nat.zero_le _)))
  clear H4_0
  have H4_0 := H4_0n
  clear H4_0n
  have H4_1n := Aside0.mk (Hd.move (Hd.move (Hd.move (Hd.move (Hd.move (H4_1.out) F9.out (.inr (Nat.zero_le _))) F10.out (.inr (Nat.zero_le _))) F11.out (.inr (Nat.zero_le _))) F12.out (by have := N4_1.out; have := NB_h0.out; have := G5.out; have := G6.out; have := G7.out; have := G8.out; have := G9.out; have := G10.out; left; omega)) F13.out (.inr (Nat.zero_le _)))
  clear H4_1
  have H4_1 := H4_1n
  clear H4_1n
  have H4_2n := Aside0.mk (Hd.move (Hd.move (Hd.move (Hd.move (Hd.move (H4_2.out) F9.out (.inr (Nat.zero_le _))) F10.out (.inr (Nat.zero_le _))) F11.out (.inr (Nat.zero_le _))) F12.out (by have := N4_2.out; have := NB_h0.out; have := G5.out; have := G6.out; have := G7.out; have := G8.out; have := G9.out; have := G10.out; left; omega)) F13.out (.inr (Nat.zero_le _)))
  clear H4_2
  have H4_2 := H4_2n
  clear H4_2n
  have H4_3n := Aside0.mk (Hd.move (Hd.move (Hd.move (Hd.move (Hd.move (H4_3.out) F9.out (.inr (Nat.zero_le _))) F10.out (.inr (Nat.zero_le _))) F11.out (.inr (Nat.zero_le _))) F12.out (by have := N4_3.out; have := NB_h0.out; have := G5.out; have := G6.out; have := G7.out; have := G8.out; have := G9.out; have := G10.out; left; omega)) F13.out (.inr (Nat.zero_le _)))
  clear H4_3
  have H4_3 := H4_3n
  clear H4_3n
  have KC14 := Aside0.mk (laws_heldCase.calls k _ _ mR0 _ _ mR1 _ _ mR2 _ _ mR3 (1) m (w13) (Hd.C H4_0.out) (Hd.cap H4_0.out) (Hd.C H4_1.out) (Hd.cap H4_1.out) (Hd.C H4_2.out) (Hd.cap H4_2.out) (Hd.C H4_3.out) (Hd.cap H4_3.out) (F_held.out))
  rw [L_lnR0.out, L_lnR1.out, L_lnR2.out, L_lnR3.out] at KC14
  go_wp2_with (first | (go_at_call 41; (with_reducible refine (KC14.out).mono ?_); rintro e w14 ⟨rfl, hb⟩; have D14 := Aside0.mk hb; clear hb; have F14 := Aside0.mk (Fr.of_below D14.out); have HBn := Aside0.mk (below_step HB.out D14.out); clear HB; have HB := HBn; clear HBn; have G14 := Aside0.mk F14.out.1; have HB14 := Aside0.mk HB.out.size))
  go_ret
  exact ⟨by first | rfl | (simp; done), HB.out⟩
theorem laws_FnExactParseCase.large (a0 : ByteArray) (w : World) (h : (a0.size : Int) > 1048576) :
    Calls Tryd.prog 10 #[.string a0] w fun e w' => e = .returned (.bool true) ∧ Below w.heap.size w w' := by
  have t_lenp : decide (1048576 < (a0.size : Int)) = true := decide_eq_true h
  clear h
  go_enter Tryd.func10, Tryd.ntmps10
  go_wp2
  go_ret
  exact ⟨by first | rfl | (simp; done), Below.refl _ _⟩
def laws_FnExactParseCase.Facts (k : Nat) (a0 : ByteArray) : Prop := (a0.size : Int) > 1048576 ∨ laws_FnExactParseCase.Good k a0
theorem laws_FnExactParseCase.calls (k : Nat) (a0 : ByteArray) (w : World) (h : laws_FnExactParseCase.Facts k a0) (hT : Tabs true true true w) :
    Calls Tryd.prog 10 #[.string a0] w fun e w' => e = .returned (.bool true) ∧ Below w.heap.size w w' := by
  rcases h with h | h
  · exact laws_FnExactParseCase.large a0 w h
  · exact laws_FnExactParseCase.good k a0 w h hT
end Go.Proofs.YtbdbogpmnmcaeaaDoor.PFnExactParseCase
