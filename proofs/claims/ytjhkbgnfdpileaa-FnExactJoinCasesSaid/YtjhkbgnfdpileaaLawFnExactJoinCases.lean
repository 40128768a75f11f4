/- The row of the law FnExactJoinCases: for all arguments that can be read as data the law's function returns true and leaves them as they were; out of the printed contract of the function and the pure statement. -/
import Derived.Test.YtjhkbgnfdpileaaRows
import Derived.Test.YtjhkbgnfdpileaaQFnExactJoinCasesx7
import Derived.Test.YtjhkbgnfdpileaaPureFnExactJoinCases
import Derived.WalkKit
import Derived.ProofKit
import Derived.OpenShut
import Derived.ShutString
import Derived.ChangeOld
import Derived.Below
import Derived.SizedLaws
import Derived.Lib.SmallJoins
namespace Go.Proofs.Ytjhkbgnfdpileaa.fnExactJoinCases
open Go.ChangeShapes Go.WideShapes Go.ChangeAt Go.RowKit Go.Proofs.YtjhkbgnfdpileaaW.PrintWords
open Go.ChangeMaps (open_string shut_string)
set_option linter.unusedVariables false
set_option linter.unusedSimpArgs false
theorem own : ownKnob Try.prog.godebug = none := by kernel_rfl
theorem laidOut : laidOutB Try.prog = true := by kernel_rfl
def IsRow (w : World) (a : Option Addr) (len cap : Nat) (zs : List Int) : Prop :=
  (a = none ∧ len = 0 ∧ cap = 0 ∧ zs = []) ∨
  ∃ x, a = some x ∧ len ≤ cap ∧ cap ≤ maxLen ∧ zs.length = cap ∧ (∀ i, i < zs.length → w.cell? (x.add i) = some (.int .i64 (zs.getD i 0))) ∧ ∀ n ∈ zs, (Lit.int .i64 n).wf = true
theorem row_of22 {H : Type} {enc : TypeId × Value → H} {W : World} {base : Nat} {held : Bool} {fuel a len cap} {y : DataW H × List MemPlace} (hf : DataW.trod enc Try.prog W base (fun _ => true) held fuel 22 [.slice a len cap] = some y) : ∃ zs, IsRow W a len cap zs := by
  rcases open_ints Try.underlying22 Try.underlying3 (by kernel_rfl) hf with ⟨hcs, _⟩ | ⟨x, l, c, zs, hcs, _, hl, hm, hz, _, hcell, hwz⟩
  · simp at hcs
    obtain ⟨rfl, rfl, rfl⟩ := hcs
    exact ⟨[], .inl ⟨rfl, rfl, rfl, rfl⟩⟩
  · simp at hcs
    obtain ⟨rfl, rfl, rfl⟩ := hcs
    exact ⟨zs, .inr ⟨_, rfl, hl, hm, by simpa using hz, hcell, hwz⟩⟩
set_option maxRecDepth 100000 in
theorem lifted (os : Os) (started : os.Started) (H : Type) (enc : TypeId × Value → H) :
    ReturnsInHanded {} Try.checked os 4 .any (Rows.fnExactJoinCasesSpec.pre6 enc Try.prog Try.f4 Rows.fnExactJoinCasesRow.domain false) (Rows.fnExactJoinCasesSpec.post enc Try.prog Try.f4 false true false false) := by
  refine returnsInHanded_of_change_sized (C := Try.checked) own started (by kernel_rfl) Try.func4
    (ChangeSpec.witness6 (enc := enc) (C := Try.checked) false ⟨#[], #[.agg #[.slice none 0 0, .slice none 0 0, .slice none 0 0, .slice none 0 0], .agg #[.slice none 0 0, .slice none 0 0, .slice none 0 0, .slice none 0 0]], []⟩ 8 (by kernel_rfl) (by kernel_rfl) (by kernel_rfl) (by kernel_rfl)) ?_
  intro W base args ds gs before hval0 hW hcnd hsz0 _
  have hval : ∀ (j : Nat) t v, Try.f4.params[j]? = some t → args[j]? = some v → Value.okWide Try.prog W .any base t v := hval0
  have hW' := hW
  obtain ⟨p, q, hA0, hV, rfl, hfz, hnd⟩ := hW
  have hA : DataW.TrodAll enc Try.prog W 0 (fun _ => true) true Try.f4.params.toList args.toList ds p := hA0
  rw [Try.params4] at hA hval
  obtain ⟨v0, vs0, d0, ds0, p0, q0, hargs, rfl, rfl, h0, r0⟩ := trodAll_cons hA
  obtain ⟨v1, vs1, d1, ds1, p1, q1, rfl, rfl, rfl, h1, r1⟩ := trodAll_cons r0
  obtain ⟨rfl, rfl, rfl⟩ := trodAll_nil r1
  obtain rfl : args = #[v0, v1] := by cases args; simp_all
  obtain ⟨rfl, rfl⟩ := trodVars_none hV
  have k0 := h0
  obtain ⟨s0_0, s0_1, s0_2, s0_3, y0_0, y0_1, y0_2, y0_3, fu0, rfl, hd0, hp0, t0_0, t0_1, t0_2, t0_3⟩ := Go.Joins.open_agg4 Try.underlying24 (by kernel_rfl) (by kernel_rfl) (hval 0 24 v0 rfl rfl) h0
  have lt0 : ∀ x ∈ p0, x.block < W.heap.size := by obtain ⟨m, hm⟩ := k0; exact DataW.trod_lt m _ _ _ hm
  obtain ⟨a0_0, len0_0, cap0_0, e0_0⟩ := Go.Joins.slice_form Try.underlying22 t0_0
  obtain rfl : s0_0 = .slice a0_0 len0_0 cap0_0 := by simpa using e0_0
  obtain ⟨z0_0, w0_0⟩ := row_of22 t0_0
  obtain ⟨l0_0, rfl, hr0_0, hm0_0, hw0_0, hc0_0⟩ := ReadsInt.ofRowC w0_0
  obtain ⟨a0_1, len0_1, cap0_1, e0_1⟩ := Go.Joins.slice_form Try.underlying22 t0_1
  obtain rfl : s0_1 = .slice a0_1 len0_1 cap0_1 := by simpa using e0_1
  obtain ⟨z0_1, w0_1⟩ := row_of22 t0_1
  obtain ⟨l0_1, rfl, hr0_1, hm0_1, hw0_1, hc0_1⟩ := ReadsInt.ofRowC w0_1
  obtain ⟨a0_2, len0_2, cap0_2, e0_2⟩ := Go.Joins.slice_form Try.underlying22 t0_2
  obtain rfl : s0_2 = .slice a0_2 len0_2 cap0_2 := by simpa using e0_2
  obtain ⟨z0_2, w0_2⟩ := row_of22 t0_2
  obtain ⟨l0_2, rfl, hr0_2, hm0_2, hw0_2, hc0_2⟩ := ReadsInt.ofRowC w0_2
  obtain ⟨a0_3, len0_3, cap0_3, e0_3⟩ := Go.Joins.slice_form Try.underlying22 t0_3
  obtain rfl : s0_3 = .slice a0_3 len0_3 cap0_3 := by simpa using e0_3
  obtain ⟨z0_3, w0_3⟩ := row_of22 t0_3
  obtain ⟨l0_3, rfl, hr0_3, hm0_3, hw0_3, hc0_3⟩ := ReadsInt.ofRowC w0_3
  have k1 := h1
  obtain ⟨s1_0, s1_1, s1_2, s1_3, y1_0, y1_1, y1_2, y1_3, fu1, rfl, hd1, hp1, t1_0, t1_1, t1_2, t1_3⟩ := Go.Joins.open_agg4 Try.underlying24 (by kernel_rfl) (by kernel_rfl) (hval 1 24 v1 rfl rfl) h1
  have lt1 : ∀ x ∈ p1, x.block < W.heap.size := by obtain ⟨m, hm⟩ := k1; exact DataW.trod_lt m _ _ _ hm
  obtain ⟨a1_0, len1_0, cap1_0, e1_0⟩ := Go.Joins.slice_form Try.underlying22 t1_0
  obtain rfl : s1_0 = .slice a1_0 len1_0 cap1_0 := by simpa using e1_0
  obtain ⟨z1_0, w1_0⟩ := row_of22 t1_0
  obtain ⟨l1_0, rfl, hr1_0, hm1_0, hw1_0, hc1_0⟩ := ReadsInt.ofRowC w1_0
  obtain ⟨a1_1, len1_1, cap1_1, e1_1⟩ := Go.Joins.slice_form Try.underlying22 t1_1
  obtain rfl : s1_1 = .slice a1_1 len1_1 cap1_1 := by simpa using e1_1
  obtain ⟨z1_1, w1_1⟩ := row_of22 t1_1
  obtain ⟨l1_1, rfl, hr1_1, hm1_1, hw1_1, hc1_1⟩ := ReadsInt.ofRowC w1_1
  obtain ⟨a1_2, len1_2, cap1_2, e1_2⟩ := Go.Joins.slice_form Try.underlying22 t1_2
  obtain rfl : s1_2 = .slice a1_2 len1_2 cap1_2 := by simpa using e1_2
  obtain ⟨z1_2, w1_2⟩ := row_of22 t1_2
  obtain ⟨l1_2, rfl, hr1_2, hm1_2, hw1_2, hc1_2⟩ := ReadsInt.ofRowC w1_2
  obtain ⟨a1_3, len1_3, cap1_3, e1_3⟩ := Go.Joins.slice_form Try.underlying22 t1_3
  obtain rfl : s1_3 = .slice a1_3 len1_3 cap1_3 := by simpa using e1_3
  obtain ⟨z1_3, w1_3⟩ := row_of22 t1_3
  obtain ⟨l1_3, rfl, hr1_3, hm1_3, hw1_3, hc1_3⟩ := ReadsInt.ofRowC w1_3
  clear hA0 hval0 hsz0
  obtain ⟨k, hk⟩ := Pure.FnExactJoinCases l0_0 l0_1 l0_2 l0_3 l1_0 l1_1 l1_2 l1_3 hm0_0 hm0_1 hm0_2 hm0_3 hm1_0 hm1_1 hm1_2 hm1_3
  refine (PFnExactJoinCases.laws_FnExactJoinCases.calls k _ _ l0_0 _ _ l0_1 _ _ l0_2 _ _ l0_3 _ _ l1_0 _ _ l1_1 _ _ l1_2 _ _ l1_3 W (Kd.C_of_reads (d := (0 : Int)) (h1 := fun _ => rfl) hr0_0) hc0_0 (Kd.C_of_reads (d := (0 : Int)) (h1 := fun _ => rfl) hr0_1) hc0_1 (Kd.C_of_reads (d := (0 : Int)) (h1 := fun _ => rfl) hr0_2) hc0_2 (Kd.C_of_reads (d := (0 : Int)) (h1 := fun _ => rfl) hr0_3) hc0_3 (Kd.C_of_reads (d := (0 : Int)) (h1 := fun _ => rfl) hr1_0) hc1_0 (Kd.C_of_reads (d := (0 : Int)) (h1 := fun _ => rfl) hr1_1) hc1_1 (Kd.C_of_reads (d := (0 : Int)) (h1 := fun _ => rfl) hr1_2) hc1_2 (Kd.C_of_reads (d := (0 : Int)) (h1 := fun _ => rfl) hr1_3) hc1_3 hk).mono ?_
  rintro e W' ⟨rfl, bel⟩
  exact ⟨_, rfl, _, _, _, [], _, [], hW', trodAll_mk1 (shut_bool Try.underlying4 _), (trodAll_cons_mk (Below.trod laidOut (by kernel_rfl) (of_decide_eq_true (by kernel_rfl)) k0 bel lt0) (trodAll_cons_mk (Below.trod laidOut (by kernel_rfl) (of_decide_eq_true (by kernel_rfl)) k1 bel lt1) trodAll_mk0)), rfl, bel.frame _, fun h => by cases h⟩
theorem over : Rows.fnExactJoinCasesRow.holds Try.pinned (OpenSpec.ofChange Rows.fnExactJoinCasesSpec) :=
  OpenClaim.holds_of_wide 4 Try.f4 rfl rfl rfl rfl rfl rfl rfl ⟨rfl, rfl, rfl, rfl, rfl⟩ rfl rfl rfl rfl rfl (by kernel_rfl) Try.func4 (by kernel_rfl)
    (of_decide_eq_true (by kernel_rfl)) (by unfold Func.isWrapper; first | (rw [if_pos (by decide +kernel)]; kernel_rfl) | (rw [if_neg (by decide +kernel)]; exact ⟨rfl, rfl⟩))
    (fun os started H enc _ => lifted os started H enc)
theorem proved : Rows.FnExactJoinCasesSaid := over
#print axioms proved
end Go.Proofs.Ytjhkbgnfdpileaa.fnExactJoinCases
namespace Go.Proofs.Ytjhkbgnfdpileaa
/-- The row, under a short name, for the claim. -/
theorem fnExactJoinCases_holds : Rows.FnExactJoinCasesSaid := fnExactJoinCases.proved
end Go.Proofs.Ytjhkbgnfdpileaa
