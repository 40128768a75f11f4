/- The row of the law FnExactParseCase: for all arguments that can be read as data the law's function returns true and leaves them as they were; out of the printed contract of the function and the pure statement. -/
import Derived.Test.YtbdbogpmnmcaeaaDoorRows
import Derived.Test.YtbdbogpmnmcaeaaDoorQFnExactParseCasex10
import Derived.Test.YtbdbogpmnmcaeaaDoorPureFnExactParseCase
import Derived.Test.YtbdbogpmnmcaeaaDoorTie
import Derived.Test.YtbdbogpmnmcaeaaDoorCards
import Derived.Test.YtbdbogpmnmcaeaaDoorTabs
import Derived.LaidMore
import Derived.Stop.Joined
import Derived.LaidLaws
import Derived.Test.YtbdbogpmnmcaeaaDoorShaped
import Derived.Lay
import Derived.WalkKit
import Derived.ProofKit
import Derived.OpenShut
import Derived.ShutString
import Derived.ChangeOld
import Derived.Below
import Derived.SizedLaws
import Derived.Lib.SmallJoins
namespace Go.Proofs.YtbdbogpmnmcaeaaDoor.fnExactParseCase
open Go.ChangeShapes Go.WideShapes Go.ChangeAt Go.RowKit Go.Proofs.YtbdbogpmnmcaeaaDoorW.PrintWords
open Go.ChangeMaps (open_string shut_string)
open Go.Proofs.YtbdbogpmnmcaeaaDoor.Tabs
set_option linter.unusedVariables false
set_option linter.unusedSimpArgs false
theorem own : ownKnob Tryd.prog.godebug = none := by kernel_rfl
theorem laidOut : laidOutB Tryd.prog = true := by kernel_rfl
def IsRow (w : World) (a : Option Addr) (len cap : Nat) (zs : List Int) : Prop :=
  (a = none ∧ len = 0 ∧ cap = 0 ∧ zs = []) ∨
  ∃ x, a = some x ∧ len ≤ cap ∧ cap ≤ maxLen ∧ zs.length = cap ∧ (∀ i, i < zs.length → w.cell? (x.add i) = some (.int .i64 (zs.getD i 0))) ∧ ∀ n ∈ zs, (Lit.int .i64 n).wf = true
theorem tabs_of {W : World} (h : laidMetH Tryd.prog Rows.fnExactParseCaseRow.laid W) (hsh : W.ShapedOpen Tryd.prog) : Tabs true true true W := by
  rw [MakeChecks.laidMetH_plain _ _ _ (by kernel_rfl)] at h
  obtain ⟨ps, ⟨g0, t0, cs0, f0, p0, q0, hg0, ht0, hv0, hd0, ⟨g1, t1, cs1, f1, p1, q1, hg1, ht1, hv1, hd1, ⟨g2, t2, cs2, f2, p2, q2, hg2, ht2, hv2, hd2, ⟨g3, t3, cs3, f3, p3, q3, hg3, ht3, hv3, hd3, ⟨g4, t4, cs4, f4, p4, q4, hg4, ht4, hv4, hd4, ⟨g5, t5, cs5, f5, p5, q5, hg5, ht5, hv5, hd5, ⟨g6, t6, cs6, f6, p6, q6, hg6, ht6, hv6, hd6, _, _⟩, _⟩, _⟩, _⟩, _⟩, _⟩, _⟩, _, _⟩ := h
  refine ⟨fun e => ?_, fun e => ?_, fun e => ?_⟩
  · have k1 : Tryd.prog.globalNamed "internal/strconv.uint64pow10" = some 3 := by kernel_rfl
    obtain rfl := Option.some.inj (k1.symm.trans hg2)
    have k2 : (Tryd.prog.globals[3]?).map (·.type) = some 130 := by kernel_rfl
    obtain rfl := Option.some.inj (k2.symm.trans ht2)
    have k3 : (Rows.laid_internal_strconv_uint64pow10 : DataW Unit) = Lib.tabData .u64 Lib.pow10Tab := by kernel_rfl
    rw [k3] at hd2
    unfold Lib.TabIs
    rw [hv2, ← Lib.cells_of_tab (k := .u64) Tryd.underlying130 Tryd.underlying71 (by kernel_rfl) (by kernel_rfl) hd2]
  · refine ⟨?_, ?_⟩
    · have k1 : Tryd.prog.globalNamed "strconv.ErrSyntax" = some 0 := by kernel_rfl
      obtain rfl := Option.some.inj (k1.symm.trans hg5)
      have k2 : (Tryd.prog.globals[0]?).map (·.type) = some 58 := by kernel_rfl
      obtain rfl := Option.some.inj (k2.symm.trans ht5)
      obtain ⟨f_, u_, v_, hcs_, _, _⟩ := iface_of_trod Tryd.underlying58 hd5
      exact ⟨u_, v_, by rw [hv5, Array.eq_one_of_toList hcs_]⟩
    · have k1 : Tryd.prog.globalNamed "strconv.ErrRange" = some 1 := by kernel_rfl
      obtain rfl := Option.some.inj (k1.symm.trans hg4)
      have k2 : (Tryd.prog.globals[1]?).map (·.type) = some 58 := by kernel_rfl
      obtain rfl := Option.some.inj (k2.symm.trans ht4)
      obtain ⟨f_, u_, v_, hcs_, _, _⟩ := iface_of_trod Tryd.underlying58 hd4
      exact ⟨u_, v_, by rw [hv4, Array.eq_one_of_toList hcs_]⟩
  · exact Tryd.laysM144.s1_3 W hsh
set_option maxRecDepth 100000 in
theorem lifted (os : Os) (started : os.Started) (H : Type) (enc : TypeId × Value → H) :
    ReturnsInHanded {} Tryd.checked os 10 .any (fun w args => (Rows.fnExactParseCaseSpec.pre enc Tryd.prog Tryd.f10 [] false w args ∧ laidMetH Tryd.prog Rows.fnExactParseCaseRow.laid w) ∧ sizedMet enc Tryd.prog Tryd.f10 (OpenSpec.ofChange Rows.fnExactParseCaseSpec) false w args)
      (Rows.fnExactParseCaseSpec.post enc Tryd.prog Tryd.f10 false true false false) := by
  refine handed_laid_shaped (fun _ _ _ hh h => h.of_heap hh) own started (by kernel_rfl) Tryd.func10
    (ChangeSpec.witness_shaped (enc := enc) (C := Tryd.checked) (os := os) (X := fun w _ => laidMetH Tryd.prog Rows.fnExactParseCaseRow.laid w) false (World.laidAll Tryd.prog os Rows.fnExactParseCaseRow.laid) #[.string ByteArray.empty] 8 (World.laidAll_os _ _ _) (World.shaped_of_ZipB (by kernel_rfl) (by kernel_rfl)) (by kernel_rfl) (by kernel_rfl) (by kernel_rfl) (by rw [MakeChecks.laidMetH_plain _ _ _ (by kernel_rfl)]; exact laidMet_laidAll _ (by kernel_rfl) (by kernel_rfl))) ?_
  intro W base args ds gs before hval0 hW hcnd hsz0 hL hsh _
  have hval : ∀ (j : Nat) t v, Tryd.f10.params[j]? = some t → args[j]? = some v → Value.okWide Tryd.prog W .any base t v := hval0
  have hW' := hW
  obtain ⟨p, q, hA0, hV, rfl, hfz, hnd⟩ := hW
  have hA : DataW.TrodAll enc Tryd.prog W 0 (fun _ => true) true Tryd.f10.params.toList args.toList ds p := hA0
  rw [Tryd.params10] at hA hval
  obtain ⟨v0, vs0, d0, ds0, p0, q0, hargs, rfl, rfl, h0, r0⟩ := trodAll_cons hA
  obtain ⟨rfl, rfl, rfl⟩ := trodAll_nil r0
  obtain rfl : args = #[v0] := by cases args; simp_all
  obtain ⟨rfl, rfl⟩ := trodVars_none hV
  obtain ⟨a0, rfl, rfl, rfl, w0⟩ := open_string Tryd.underlying9 (hval 0 9 v0 rfl rfl) h0
  clear hA0 hval0 hsz0
  obtain ⟨k, hk⟩ := Pure.FnExactParseCase a0 w0
  refine (PFnExactParseCase.laws_FnExactParseCase.calls k a0 W  hk (tabs_of hL hsh)).mono ?_
  rintro e W' ⟨rfl, bel⟩
  exact ⟨_, rfl, _, _, _, [], _, [], hW', trodAll_mk1 (shut_bool Tryd.underlying4 _), (trodAll_cons_mk (shut_string Tryd.underlying9 w0) trodAll_mk0), rfl, bel.frame _, fun h => by cases h⟩
theorem over : Rows.fnExactParseCaseRow.holds Tryd.pinned (OpenSpec.ofChange Rows.fnExactParseCaseSpec) :=
  OpenClaim.holds_of_wide 10 Tryd.f10 rfl rfl rfl rfl rfl rfl rfl ⟨rfl, rfl, rfl, rfl, rfl⟩ rfl rfl rfl rfl rfl (by kernel_rfl) Tryd.func10 (by kernel_rfl)
    (of_decide_eq_true (by kernel_rfl)) (by unfold Func.isWrapper; first | (rw [if_pos (by decide +kernel)]; kernel_rfl) | (rw [if_neg (by decide +kernel)]; exact ⟨rfl, rfl⟩))
    (fun os started H enc _ => lifted os started H enc)
theorem card_holds : Rows.FnExactParseCaseCardSaid :=
  Claim7.holds_tied_plain_at .later [] [.data, .data, .data, .data, .sentinel, .sentinel, .pinned] true (true, "0d79588cd9bb922fff7211f7538b6017559197e407e6951d292cce5657b076fa") true
    over (fun _ h => by cases h) (by kernel_rfl) (fun _ h => by cases h) fnExactParseCase_row_tie rfl ⟨rfl, rfl⟩ (by kernel_rfl) rfl
    (fun f fn hf hfn => by
      obtain rfl : f = 10 := Option.some.inj ((show Tryd.prog.funcNamed "loop.example/g01111/laws.FnExactParseCase" = some 10 by kernel_rfl).symm.trans hf) |>.symm
      obtain rfl : fn = Tryd.f10 := (Option.some.inj (Tryd.func10.symm.trans hfn)).symm
      exact ⟨by kernel_rfl, fun j t ht => by
        rw [Tryd.params10] at ht
        have hm : t ∈ [9] := by simpa using Array.mem_of_getElem? ht
        have hall : ([9].all fun u => !Tryd.prog.wantsStandIn u) = true := by kernel_rfl
        exact (show Tryd.prog.wantsStandIn t = false by simpa using List.all_eq_true.1 hall t hm)⟩)
    (by kernel_rfl)
#print axioms card_holds
end Go.Proofs.YtbdbogpmnmcaeaaDoor.fnExactParseCase
namespace Go.Proofs.YtbdbogpmnmcaeaaDoor
/-- The row, under a short name, for the claim. -/
theorem fnExactParseCase_holds : Rows.FnExactParseCaseCardSaid := fnExactParseCase.card_holds
end Go.Proofs.YtbdbogpmnmcaeaaDoor
