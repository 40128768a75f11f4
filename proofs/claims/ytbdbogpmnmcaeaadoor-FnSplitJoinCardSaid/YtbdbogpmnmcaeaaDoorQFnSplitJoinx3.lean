/- Written by a program of this session (inject.py) with the help of the kit's print: contracts of the law's functions, each a plain Lean function and the proof that the machine's call answers it; the functions with function values are walked by hand. -/
import Derived.Test.YtbdbogpmnmcaeaaDoorQFnSplitJoinx0
import Derived.Test.YtbdbogpmnmcaeaaDoorQFnSplitJoinx1
import Derived.Test.YtbdbogpmnmcaeaaDoorQFnSplitJoinx2
namespace Go.Proofs.YtbdbogpmnmcaeaaDoor.PFnSplitJoin
open Go.RowKit Go.Proofs.YtbdbogpmnmcaeaaDoor.Tabs Go.Proofs.YtbdbogpmnmcaeaaDoorW.PrintWords Go.Proofs.YtbdbogpmnmcaeaaDoorW.PrintLast Go.Proofs.YtbdbogpmnmcaeaaDoorW.PrintMore
attribute [local go_sem] max2_int min2_int max_two min_two max_three min_three max_four min_four   -- for this text's walks alone
set_option linter.unusedVariables false
set_option linter.unusedSimpArgs false

/-! ### laws_FnSplitJoin: function 9 -/
def laws_FnSplitJoin.j0 : Nat → ByteArray → ByteArray → List ByteArray → Bool → Bool → Option (Bool)
  | 0, _, _, _, _, _ => none
  | k + 1, x3, x4, x5, x6, x78 => if x78 = true then (some false) else (if (x4.size : Int) = 1 then ((impl_JoinStrings.f k x5 x4).bind fun bt152 => (if x6 = true then (if bt152.2 = true then (some (bt152.1.toList == x3.toList)) else (some false)) else (some false))) else (if x6 = true then (some false) else (some ((x5.length : Int) == 0))))
def laws_FnSplitJoin.f (k : Nat) (l0 : List Int) : Option (Bool) := (laws_vBig.f l0).bind fun t131 => (if t131 = true then (some true) else ((spec_DrawSplitString.f l0).bind fun bt132 => ((impl_SplitString.f bt132.1 bt132.2).bind fun bt134 => ((spec_DrawJoinStrings.f k l0).bind fun bt138 => ((impl_JoinStrings.f k bt138.1 bt138.2).bind fun bt142 => ((spec_JoinStrings.f k bt138.1 bt138.2).bind fun bt144 => ((spec_DrawLessString.f l0).bind fun bt146 => (if bt142.1.toList = bt144.1.toList then (if (bt142.2 != bt144.2) = true then (laws_FnSplitJoin.j0 k bt132.1 bt132.2 bt134.1 bt134.2 true) else ((impl_LessString.f bt146.1 bt146.2).bind fun t148 => ((spec_LessString.f bt146.1 bt146.2).bind fun t149 => (if (t148 != t149) = true then (laws_FnSplitJoin.j0 k bt132.1 bt132.2 bt134.1 bt134.2 true) else ((impl_LessString.f bt146.1 bt146.2).bind fun t150 => (if t150 = true then ((impl_LessString.f bt146.2 bt146.1).bind fun t151 => (laws_FnSplitJoin.j0 k bt132.1 bt132.2 bt134.1 bt134.2 t151)) else (laws_FnSplitJoin.j0 k bt132.1 bt132.2 bt134.1 bt134.2 false))))))) else (laws_FnSplitJoin.j0 k bt132.1 bt132.2 bt134.1 bt134.2 true)))))))))
theorem laws_FnSplitJoin.mono_l : ∀ k, (∀ y0 y1 y2 y3 y4, LeO (laws_FnSplitJoin.j0 k y0 y1 y2 y3 y4) (laws_FnSplitJoin.j0 (k + 1) y0 y1 y2 y3 y4))
  | 0 => fun _ _ _ _ _ r h => by simp [laws_FnSplitJoin.j0] at h
  | k + 1 => by
    have ih0 := laws_FnSplitJoin.mono_l k
    · intro y0 y1 y2 y3 y4
      unfold laws_FnSplitJoin.j0
      repeat' first
      | (with_reducible exact ih0 _ _ _ _ _)
      | (with_reducible exact impl_JoinStrings.mono _ _ _)
      | (with_reducible exact spec_DrawJoinStrings.mono _ _)
      | (with_reducible exact spec_JoinStrings.mono _ _ _)
      | (with_reducible exact LeO.refl _)
      | (with_reducible exact LeO.none _)
      | (with_reducible refine LeO.ite ?_ ?_)
      | (with_reducible refine LeO.bind ?_ (fun _ => ?_))
      | exact ih0 _ _ _ _ _
      | exact impl_JoinStrings.mono _ _ _
      | exact spec_DrawJoinStrings.mono _ _
      | exact spec_JoinStrings.mono _ _ _
      | exact LeO.none _
      | refine LeO.ite ?_ ?_
      | refine LeO.bind ?_ (fun _ => ?_)
theorem laws_FnSplitJoin.mono : ∀ a0 k, LeO (laws_FnSplitJoin.f k a0) (laws_FnSplitJoin.f (k + 1) a0) := by
  intro a0 k
  have ih0 := laws_FnSplitJoin.mono_l k
  unfold laws_FnSplitJoin.f
  repeat' first
      | (with_reducible exact ih0 _ _ _ _ _)
      | (with_reducible exact impl_JoinStrings.mono _ _ _)
      | (with_reducible exact spec_DrawJoinStrings.mono _ _)
      | (with_reducible exact spec_JoinStrings.mono _ _ _)
      | (with_reducible exact LeO.refl _)
      | (with_reducible exact LeO.none _)
      | (with_reducible refine LeO.ite ?_ ?_)
      | (with_reducible refine LeO.bind ?_ (fun _ => ?_))
      | exact ih0 _ _ _ _ _
      | exact impl_JoinStrings.mono _ _ _
      | exact spec_DrawJoinStrings.mono _ _
      | exact spec_JoinStrings.mono _ _ _
      | exact LeO.none _
      | refine LeO.ite ?_ ?_
      | refine LeO.bind ?_ (fun _ => ?_)
set_option maxHeartbeats 8000000 in
set_option maxRecDepth 100000 in
theorem laws_FnSplitJoin.calls (k : Nat) (A0 : Option Addr) (c0 : Nat) (l0 : List Int) (r : Bool) (w : World) (hr0 : Kd.C (Kd.int .u8) w A0 l0.length l0) (hc0 : l0.length ≤ c0) (h : laws_FnSplitJoin.f k l0 = some r) (hT : Tabs false false true w) :
    Calls Tryd.prog 9 #[.slice A0 l0.length c0] w fun e w' => e = .returned (.bool r) ∧ Below w.heap.size w w' := by
  have HT := Aside0.mk hT
  clear hT
  have HR0 := Aside0.mk hr0
  have HC0 := Aside0.mk hc0
  clear hr0 hc0
  have HB := Aside0.mk (Below.refl w.heap.size w)
  have H : ((laws_vBig.f l0).bind fun t131 => (if t131 = true then (some true) else ((spec_DrawSplitString.f l0).bind fun bt132 => ((impl_SplitString.f bt132.1 bt132.2).bind fun bt134 => ((spec_DrawJoinStrings.f k l0).bind fun bt138 => ((impl_JoinStrings.f k bt138.1 bt138.2).bind fun bt142 => ((spec_JoinStrings.f k bt138.1 bt138.2).bind fun bt144 => ((spec_DrawLessString.f l0).bind fun bt146 => (if bt142.1.toList = bt144.1.toList then (if (bt142.2 != bt144.2) = true then (laws_FnSplitJoin.j0 k bt132.1 bt132.2 bt134.1 bt134.2 true) else ((impl_LessString.f bt146.1 bt146.2).bind fun t148 => ((spec_LessString.f bt146.1 bt146.2).bind fun t149 => (if (t148 != t149) = true then (laws_FnSplitJoin.j0 k bt132.1 bt132.2 bt134.1 bt134.2 true) else ((impl_LessString.f bt146.1 bt146.2).bind fun t150 => (if t150 = true then ((impl_LessString.f bt146.2 bt146.1).bind fun t151 => (laws_FnSplitJoin.j0 k bt132.1 bt132.2 bt134.1 bt134.2 t151)) else (laws_FnSplitJoin.j0 k bt132.1 bt132.2 bt134.1 bt134.2 false))))))) else (laws_FnSplitJoin.j0 k bt132.1 bt132.2 bt134.1 bt134.2 true)))))))))) = some r := h
  clear h
  replace H := Option.bind_eq_some_iff.mp H
  obtain ⟨t131, A20, H⟩ := H
  replace H : (if t131 = true then (some true) else ((spec_DrawSplitString.f l0).bind fun bt132 => ((impl_SplitString.f bt132.1 bt132.2).bind fun bt134 => ((spec_DrawJoinStrings.f k l0).bind fun bt138 => ((impl_JoinStrings.f k bt138.1 bt138.2).bind fun bt142 => ((spec_JoinStrings.f k bt138.1 bt138.2).bind fun bt144 => ((spec_DrawLessString.f l0).bind fun bt146 => (if bt142.1.toList = bt144.1.toList then (if (bt142.2 != bt144.2) = true then (laws_FnSplitJoin.j0 k bt132.1 bt132.2 bt134.1 bt134.2 true) else ((impl_LessString.f bt146.1 bt146.2).bind fun t148 => ((spec_LessString.f bt146.1 bt146.2).bind fun t149 => (if (t148 != t149) = true then (laws_FnSplitJoin.j0 k bt132.1 bt132.2 bt134.1 bt134.2 true) else ((impl_LessString.f bt146.1 bt146.2).bind fun t150 => (if t150 = true then ((impl_LessString.f bt146.2 bt146.1).bind fun t151 => (laws_FnSplitJoin.j0 k bt132.1 bt132.2 bt134.1 bt134.2 t151)) else (laws_FnSplitJoin.j0 k bt132.1 bt132.2 bt134.1 bt134.2 false))))))) else (laws_FnSplitJoin.j0 k bt132.1 bt132.2 bt134.1 bt134.2 true))))))))) = some r := H
  have A2 := Aside0.mk A20
  clear A20
  by_cases c3 : t131 = true
  · subst c3
    have H1 : (some true) = some r := by rw [if_pos rfl] at H; exact H
    clear H
    have H := H1
    clear H1
    obtain rfl := Option.some.inj H
    go_enter Tryd.func9, Tryd.ntmps9
    go_wp2_with (first | ((with_reducible refine gate_callee (f := 25) rfl ?_); refine goesL_ (some 18) rfl rfl Tryd.func25 (by kernel_rfl) rfl #[.slice A0 l0.length c0] rfl (by (try simp only [List.map_toArray, List.map_cons, List.map_nil]); first | done | rfl | (simp only [List.length_drop, List.length_take]; rfl)) ?_; (with_reducible refine (laws_vBig.calls _ _ l0 true _ ?side1 ?side2 A2.out).mono ?_); (case side1 => repeat (first | exact HR0.out | (with_reducible refine Kd.C_alloc ?_ _) | (with_reducible refine Kd.C_drewN ?_ _) | (with_reducible refine Kd.C_drew ?_))); (case side2 => exact HC0.out); rintro e w' ⟨rfl, ⟨nd, rfl⟩⟩; refine ⟨_, rfl, ?_⟩))
    go_ret
    exact ⟨by first | rfl | (simp [errW_none, errW_some] <;> rfl) | (simp [*, errW_none, errW_some] <;> rfl), by repeat (first | (with_reducible first | exact HB.out | apply below_alloc | apply pw_below_drewN | apply below_drew1) | exact HB.out)⟩
  · replace c3 := Bool.eq_false_iff.mpr c3
    subst c3
    have H1 : ((spec_DrawSplitString.f l0).bind fun bt132 => ((impl_SplitString.f bt132.1 bt132.2).bind fun bt134 => ((spec_DrawJoinStrings.f k l0).bind fun bt138 => ((impl_JoinStrings.f k bt138.1 bt138.2).bind fun bt142 => ((spec_JoinStrings.f k bt138.1 bt138.2).bind fun bt144 => ((spec_DrawLessString.f l0).bind fun bt146 => (if bt142.1.toList = bt144.1.toList then (if (bt142.2 != bt144.2) = true then (laws_FnSplitJoin.j0 k bt132.1 bt132.2 bt134.1 bt134.2 true) else ((impl_LessString.f bt146.1 bt146.2).bind fun t148 => ((spec_LessString.f bt146.1 bt146.2).bind fun t149 => (if (t148 != t149) = true then (laws_FnSplitJoin.j0 k bt132.1 bt132.2 bt134.1 bt134.2 true) else ((impl_LessString.f bt146.1 bt146.2).bind fun t150 => (if t150 = true then ((impl_LessString.f bt146.2 bt146.1).bind fun t151 => (laws_FnSplitJoin.j0 k bt132.1 bt132.2 bt134.1 bt134.2 t151)) else (laws_FnSplitJoin.j0 k bt132.1 bt132.2 bt134.1 bt134.2 false))))))) else (laws_FnSplitJoin.j0 k bt132.1 bt132.2 bt134.1 bt134.2 true)))))))) = some r := by rw [if_neg (show ¬ (false = true) by decide)] at H; exact H
    clear H
    have H := H1
    clear H1
    replace H := Option.bind_eq_some_iff.mp H
    obtain ⟨⟨t132, t133⟩, A40, H⟩ := H
    replace H : ((impl_SplitString.f t132 t133).bind fun bt134 => ((spec_DrawJoinStrings.f k l0).bind fun bt138 => ((impl_JoinStrings.f k bt138.1 bt138.2).bind fun bt142 => ((spec_JoinStrings.f k bt138.1 bt138.2).bind fun bt144 => ((spec_DrawLessString.f l0).bind fun bt146 => (if bt142.1.toList = bt144.1.toList then (if (bt142.2 != bt144.2) = true then (laws_FnSplitJoin.j0 k t132 t133 bt134.1 bt134.2 true) else ((impl_LessString.f bt146.1 bt146.2).bind fun t148 => ((spec_LessString.f bt146.1 bt146.2).bind fun t149 => (if (t148 != t149) = true then (laws_FnSplitJoin.j0 k t132 t133 bt134.1 bt134.2 true) else ((impl_LessString.f bt146.1 bt146.2).bind fun t150 => (if t150 = true then ((impl_LessString.f bt146.2 bt146.1).bind fun t151 => (laws_FnSplitJoin.j0 k t132 t133 bt134.1 bt134.2 t151)) else (laws_FnSplitJoin.j0 k t132 t133 bt134.1 bt134.2 false))))))) else (laws_FnSplitJoin.j0 k t132 t133 bt134.1 bt134.2 true))))))) = some r := H
    have A4 := Aside0.mk A40
    clear A40
    replace H := Option.bind_eq_some_iff.mp H
    obtain ⟨⟨t134, t135⟩, A50, H⟩ := H
    replace H : ((spec_DrawJoinStrings.f k l0).bind fun bt138 => ((impl_JoinStrings.f k bt138.1 bt138.2).bind fun bt142 => ((spec_JoinStrings.f k bt138.1 bt138.2).bind fun bt144 => ((spec_DrawLessString.f l0).bind fun bt146 => (if bt142.1.toList = bt144.1.toList then (if (bt142.2 != bt144.2) = true then (laws_FnSplitJoin.j0 k t132 t133 t134 t135 true) else ((impl_LessString.f bt146.1 bt146.2).bind fun t148 => ((spec_LessString.f bt146.1 bt146.2).bind fun t149 => (if (t148 != t149) = true then (laws_FnSplitJoin.j0 k t132 t133 t134 t135 true) else ((impl_LessString.f bt146.1 bt146.2).bind fun t150 => (if t150 = true then ((impl_LessString.f bt146.2 bt146.1).bind fun t151 => (laws_FnSplitJoin.j0 k t132 t133 t134 t135 t151)) else (laws_FnSplitJoin.j0 k t132 t133 t134 t135 false))))))) else (laws_FnSplitJoin.j0 k t132 t133 t134 t135 true)))))) = some r := H
    have A5 := Aside0.mk A50
    clear A50
    replace H := Option.bind_eq_some_iff.mp H
    obtain ⟨⟨t138, t139⟩, A60, H⟩ := H
    replace H : ((impl_JoinStrings.f k t138 t139).bind fun bt142 => ((spec_JoinStrings.f k t138 t139).bind fun bt144 => ((spec_DrawLessString.f l0).bind fun bt146 => (if bt142.1.toList = bt144.1.toList then (if (bt142.2 != bt144.2) = true then (laws_FnSplitJoin.j0 k t132 t133 t134 t135 true) else ((impl_LessString.f bt146.1 bt146.2).bind fun t148 => ((spec_LessString.f bt146.1 bt146.2).bind fun t149 => (if (t148 != t149) = true then (laws_FnSplitJoin.j0 k t132 t133 t134 t135 true) else ((impl_LessString.f bt146.1 bt146.2).bind fun t150 => (if t150 = true then ((impl_LessString.f bt146.2 bt146.1).bind fun t151 => (laws_FnSplitJoin.j0 k t132 t133 t134 t135 t151)) else (laws_FnSplitJoin.j0 k t132 t133 t134 t135 false))))))) else (laws_FnSplitJoin.j0 k t132 t133 t134 t135 true))))) = some r := H
    have A6 := Aside0.mk A60
    clear A60
    replace H := Option.bind_eq_some_iff.mp H
    obtain ⟨⟨t142, t143⟩, A70, H⟩ := H
    replace H : ((spec_JoinStrings.f k t138 t139).bind fun bt144 => ((spec_DrawLessString.f l0).bind fun bt146 => (if t142.toList = bt144.1.toList then (if (t143 != bt144.2) = true then (laws_FnSplitJoin.j0 k t132 t133 t134 t135 true) else ((impl_LessString.f bt146.1 bt146.2).bind fun t148 => ((spec_LessString.f bt146.1 bt146.2).bind fun t149 => (if (t148 != t149) = true then (laws_FnSplitJoin.j0 k t132 t133 t134 t135 true) else ((impl_LessString.f bt146.1 bt146.2).bind fun t150 => (if t150 = true then ((impl_LessString.f bt146.2 bt146.1).bind fun t151 => (laws_FnSplitJoin.j0 k t132 t133 t134 t135 t151)) else (laws_FnSplitJoin.j0 k t132 t133 t134 t135 false))))))) else (laws_FnSplitJoin.j0 k t132 t133 t134 t135 true)))) = some r := H
    have A7 := Aside0.mk A70
    clear A70
    replace H := Option.bind_eq_some_iff.mp H
    obtain ⟨⟨t144, t145⟩, A80, H⟩ := H
    replace H : ((spec_DrawLessString.f l0).bind fun bt146 => (if t142.toList = t144.toList then (if (t143 != t145) = true then (laws_FnSplitJoin.j0 k t132 t133 t134 t135 true) else ((impl_LessString.f bt146.1 bt146.2).bind fun t148 => ((spec_LessString.f bt146.1 bt146.2).bind fun t149 => (if (t148 != t149) = true then (laws_FnSplitJoin.j0 k t132 t133 t134 t135 true) else ((impl_LessString.f bt146.1 bt146.2).bind fun t150 => (if t150 = true then ((impl_LessString.f bt146.2 bt146.1).bind fun t151 => (laws_FnSplitJoin.j0 k t132 t133 t134 t135 t151)) else (laws_FnSplitJoin.j0 k t132 t133 t134 t135 false))))))) else (laws_FnSplitJoin.j0 k t132 t133 t134 t135 true))) = some r := H
    have A8 := Aside0.mk A80
    clear A80
    replace H := Option.bind_eq_some_iff.mp H
    obtain ⟨⟨t146, t147⟩, A90, H⟩ := H
    replace H : (if t142.toList = t144.toList then (if (t143 != t145) = true then (laws_FnSplitJoin.j0 k t132 t133 t134 t135 true) else ((impl_LessString.f t146 t147).bind fun t148 => ((spec_LessString.f t146 t147).bind fun t149 => (if (t148 != t149) = true then (laws_FnSplitJoin.j0 k t132 t133 t134 t135 true) else ((impl_LessString.f t146 t147).bind fun t150 => (if t150 = true then ((impl_LessString.f t147 t146).bind fun t151 => (laws_FnSplitJoin.j0 k t132 t133 t134 t135 t151)) else (laws_FnSplitJoin.j0 k t132 t133 t134 t135 false))))))) else (laws_FnSplitJoin.j0 k t132 t133 t134 t135 true)) = some r := H
    have A9 := Aside0.mk A90
    clear A90
    have HC10 := Aside0.mk H
    clear H
    go_enter Tryd.func9, Tryd.ntmps9
    go_upto_region 9 with (first | ((with_reducible refine gate_callee (f := 25) rfl ?_); refine goesL_ (some 18) rfl rfl Tryd.func25 (by kernel_rfl) rfl #[.slice A0 l0.length c0] rfl (by (try simp only [List.map_toArray, List.map_cons, List.map_nil]); first | done | rfl | (simp only [List.length_drop, List.length_take]; rfl)) ?_; (with_reducible refine (laws_vBig.calls _ _ l0 false _ ?side1 ?side2 A2.out).mono ?_); (case side1 => repeat (first | exact HR0.out | (with_reducible refine Kd.C_alloc ?_ _) | (with_reducible refine Kd.C_drewN ?_ _) | (with_reducible refine Kd.C_drew ?_))); (case side2 => exact HC0.out); rintro e w' ⟨rfl, ⟨nd, rfl⟩⟩; refine ⟨_, rfl, ?_⟩) | ((with_reducible refine gate_callee (f := 30) rfl ?_); refine goesL_ (some 21) rfl rfl Tryd.func30 (by kernel_rfl) rfl #[.slice A0 l0.length c0] rfl (by (try simp only [List.map_toArray, List.map_cons, List.map_nil]); first | done | rfl | (simp only [List.length_drop, List.length_take]; rfl)) ?_; (with_reducible refine (spec_DrawSplitString.calls _ _ l0 t132 t133 _ ?side1 ?side2 A4.out).mono ?_); (case side1 => repeat (first | exact HR0.out | (with_reducible refine Kd.C_alloc ?_ _) | (with_reducible refine Kd.C_drewN ?_ _) | (with_reducible refine Kd.C_drew ?_))); (case side2 => exact HC0.out); rintro e w11 ⟨rfl, hb⟩; refine ⟨_, rfl, ?_⟩; have n0_ := Aside0.mk (below_step (by repeat (first | (with_reducible first | exact HB.out | apply below_alloc | apply pw_below_drewN | apply below_drew1) | exact HB.out)) hb); clear HB; have HB := n0_; clear n0_; (try clear hb); (try clear hb2); (try clear hk); (try clear hi)) | ((with_reducible refine gate_callee (f := 17) rfl ?_); refine goesL_ (some 27) rfl rfl Tryd.func17 (by kernel_rfl) rfl #[.string t132, .string t133] rfl (by (try simp only [List.map_toArray, List.map_cons, List.map_nil]); first | done | rfl | (simp only [List.length_drop, List.length_take]; rfl)) ?_; (with_reducible refine (impl_SplitString.calls t132 t133 t134 t135 _ A5.out ?sideT).mono ?_); (case sideT => repeat (first | (with_reducible exact HT.out) | exact Tabs.below HT.out HB.out | (with_reducible refine Tabs.drewN ?_ _) | (with_reducible refine Tabs.drew ?_) | (with_reducible refine Tabs.alloc ?_ _))); rintro e w12 ⟨v136, rfl, ho0, hb⟩; refine ⟨_, rfl, ?_⟩; have n0_ := Aside0.mk (Kd.R_lower ho0 (below_size (by repeat (first | (with_reducible first | exact HB.out | apply below_alloc | apply pw_below_drewN | apply below_drew1) | exact HB.out)))); have n1_ := Aside0.mk (below_step (by repeat (first | (with_reducible first | exact HB.out | apply below_alloc | apply pw_below_drewN | apply below_drew1) | exact HB.out)) hb); clear HB; have HO137 := n0_; have HB := n1_; clear n0_ n1_; (try clear hb); (try clear hb2); (try clear hk); (try clear hi); (try clear ho0)) | ((with_reducible refine gate_callee (f := 31) rfl ?_); refine goesL_ (some 32) rfl rfl Tryd.func31 (by kernel_rfl) rfl #[.slice A0 l0.length c0] rfl (by (try simp only [List.map_toArray, List.map_cons, List.map_nil]); first | done | rfl | (simp only [List.length_drop, List.length_take]; rfl)) ?_; (with_reducible refine (spec_DrawJoinStrings.calls k _ _ l0 t138 t139 _ ?side1 ?side2 A6.out).mono ?_); (case side1 => repeat (first | exact (Kd.C_below HR0.out HB.out) | (with_reducible refine Kd.C_alloc ?_ _) | (with_reducible refine Kd.C_drewN ?_ _) | (with_reducible refine Kd.C_drew ?_))); (case side2 => exact HC0.out); rintro e w13 ⟨v140, rfl, ho0, hb⟩; refine ⟨_, rfl, ?_⟩; have n0_ := Aside0.mk (Kd.R_elder' (by (with_reducible repeat (first | apply Kd.R_alloc | apply Kd.R_drewN | apply Kd.R_drew)); exact HO137.out) (Kd.R_base ho0) hb); have n1_ := Aside0.mk (Kd.R_lower (Kd.R_new' ho0 (Kd.R_lt (by (with_reducible repeat (first | apply Kd.R_alloc | apply Kd.R_drewN | apply Kd.R_drew)); exact HO137.out))) (below_size (by repeat (first | (with_reducible first | exact HB.out | apply below_alloc | apply pw_below_drewN | apply below_drew1) | exact HB.out)))); have n2_ := Aside0.mk (below_step (by repeat (first | (with_reducible first | exact HB.out | apply below_alloc | apply pw_below_drewN | apply below_drew1) | exact HB.out)) hb); clear HO137; clear HB; have HO137 := n0_; have HO141 := n1_; have HB := n2_; clear n0_ n1_ n2_; (try clear hb); (try clear hb2); (try clear hk); (try clear hi); (try clear ho0); obtain ⟨Ao14, co14, eo14⟩ := Kd.R_slice HO141.out; subst eo14) | ((with_reducible refine gate_callee (f := 32) rfl ?_); refine goesL_ (some 38) rfl rfl Tryd.func32 (by kernel_rfl) rfl #[.slice Ao14 t138.length co14, .string t139] rfl (by (try simp only [List.map_toArray, List.map_cons, List.map_nil]); first | done | rfl | (simp only [List.length_drop, List.length_take]; rfl)) ?_; (with_reducible refine (impl_JoinStrings.calls k _ _ t138 t139 t142 t143 _ ?side1 ?side2 A7.out).mono ?_); (case side1 => repeat (first | exact (Kd.R_reads' HO141.out).2.2 | (with_reducible refine Kd.C_alloc ?_ _) | (with_reducible refine Kd.C_drewN ?_ _) | (with_reducible refine Kd.C_drew ?_))); (case side2 => exact (Kd.R_reads' HO141.out).2.1); rintro e w15 ⟨rfl, hb⟩; refine ⟨_, rfl, ?_⟩; have n0_ := Aside0.mk (Kd.R_below (by (with_reducible repeat (first | apply Kd.R_alloc | apply Kd.R_drewN | apply Kd.R_drew)); exact HO137.out) hb); have n1_ := Aside0.mk (Kd.R_below (by (with_reducible repeat (first | apply Kd.R_alloc | apply Kd.R_drewN | apply Kd.R_drew)); exact HO141.out) hb); have n2_ := Aside0.mk (below_step (by repeat (first | (with_reducible first | exact HB.out | apply below_alloc | apply pw_below_drewN | apply below_drew1) | exact HB.out)) hb); clear HO137; clear HO141; clear HB; have HO137 := n0_; have HO141 := n1_; have HB := n2_; clear n0_ n1_ n2_; (try clear hb); (try clear hb2); (try clear hk); (try clear hi)) | ((with_reducible refine gate_callee (f := 33) rfl ?_); refine goesL_ (some 44) rfl rfl Tryd.func33 (by kernel_rfl) rfl #[.slice Ao14 t138.length co14, .string t139] rfl (by (try simp only [List.map_toArray, List.map_cons, List.map_nil]); first | done | rfl | (simp only [List.length_drop, List.length_take]; rfl)) ?_; (with_reducible refine (spec_JoinStrings.calls k _ _ t138 t139 t144 t145 _ ?side1 ?side2 A8.out).mono ?_); (case side1 => repeat (first | exact (Kd.R_reads' HO141.out).2.2 | (with_reducible refine Kd.C_alloc ?_ _) | (with_reducible refine Kd.C_drewN ?_ _) | (with_reducible refine Kd.C_drew ?_))); (case side2 => exact (Kd.R_reads' HO141.out).2.1); rintro e w' ⟨rfl, ⟨nd, rfl⟩⟩; refine ⟨_, rfl, ?_⟩) | ((with_reducible refine gate_callee (f := 34) rfl ?_); refine goesL_ (some 49) rfl rfl Tryd.func34 (by kernel_rfl) rfl #[.slice A0 l0.length c0] rfl (by (try simp only [List.map_toArray, List.map_cons, List.map_nil]); first | done | rfl | (simp only [List.length_drop, List.length_take]; rfl)) ?_; (with_reducible refine (spec_DrawLessString.calls _ _ l0 t146 t147 _ ?side1 ?side2 A9.out).mono ?_); (case side1 => repeat (first | exact (Kd.C_below HR0.out (by repeat (first | (with_reducible first | exact HB.out | apply below_alloc | apply pw_below_drewN | apply below_drew1) | exact HB.out))) | (with_reducible refine Kd.C_alloc ?_ _) | (with_reducible refine Kd.C_drewN ?_ _) | (with_reducible refine Kd.C_drew ?_))); (case side2 => exact HC0.out); rintro e w16 ⟨rfl, hb⟩; refine ⟨_, rfl, ?_⟩; have n0_ := Aside0.mk (Kd.R_below (by (with_reducible repeat (first | apply Kd.R_alloc | apply Kd.R_drewN | apply Kd.R_drew)); exact HO137.out) hb); have n1_ := Aside0.mk (Kd.R_below (by (with_reducible repeat (first | apply Kd.R_alloc | apply Kd.R_drewN | apply Kd.R_drew)); exact HO141.out) hb); have n2_ := Aside0.mk (below_step (by repeat (first | (with_reducible first | exact HB.out | apply below_alloc | apply pw_below_drewN | apply below_drew1) | exact HB.out)) hb); clear HO137; clear HO141; clear HB; have HO137 := n0_; have HO141 := n1_; have HB := n2_; clear n0_ n1_ n2_; (try clear hb); (try clear hb2); (try clear hk); (try clear hi)))
    (try simp only [Act.put, List.setIfInBounds_toArray, List.set_cons_zero, List.set_cons_succ])
    go_cut [78] (fun v78 wc => ∃ (kq : Nat) (x78_9 : Bool), v78 = .bool x78_9 ∧ Aside0 (laws_FnSplitJoin.j0 kq t132 t133 t134 t135 x78_9 = some r) ∧ Aside0 (kq ≤ k) ∧ Aside0 (Kd.R Kd.string 9 wc w.heap.size (fun _ => True) v136 t134) ∧ Aside0 (Below w.heap.size w wc))
    case first =>
      have H := HC10.out
      clear HC10
      by_cases c17 : t142.toList = t144.toList
      · rw [if_pos c17] at H
        have c17b0 : (t142.toList == t144.toList) = true := beq_iff_eq.mpr c17
        have c17b1 : (t142.toList != t144.toList) = false := bne_eq_false_iff_eq.mpr c17
        clear c17
        (first | rw [c17b0] | (simp only [i64_w, i32_w]; rw [c17b0]) | skip)
        by_cases c18 : (t143 != t145) = true
        · rw [if_pos c18] at H
          have c18b0 : (t143 != t145) = true := c18
          (try (have c18b1 : decide (t143 = t145) = false := by simpa using c18))
          (try (have c18b2 : (t143 == t145) = false := by simpa using c18))
          (try (have c18b3 : ¬ (t143 = t145) := by simpa using c18))
          clear c18
          have H' := Aside0.mk H
          clear H
          go_wp2
          go_meet
          case rel => exact ⟨_, (true), (by first | rfl | (simp; done) | (simp [*]; done)), H', ⟨by first | omega | exact Nat.le_refl _⟩, ⟨by (with_reducible repeat (first | apply Kd.R_alloc | apply Kd.R_drewN | apply Kd.R_drew)); exact Kd.R_mono HO137.out (fun _ hk => trivial)⟩, ⟨by repeat (first | (with_reducible first | exact HB.out | apply below_alloc | apply pw_below_drewN | apply below_drew1) | exact HB.out)⟩⟩
        · rw [if_neg c18] at H
          have c18b0 : (t143 != t145) = false := by simpa using c18
          (try (have c18b1 : decide (t143 = t145) = true := by simpa using c18))
          (try (have c18b2 : (t143 == t145) = true := by simpa using c18))
          clear c18
          replace H := Option.bind_eq_some_iff.mp H
          obtain ⟨t148, A190, H⟩ := H
          replace H : ((spec_LessString.f t146 t147).bind fun t149 => (if (t148 != t149) = true then (laws_FnSplitJoin.j0 k t132 t133 t134 t135 true) else ((impl_LessString.f t146 t147).bind fun t150 => (if t150 = true then ((impl_LessString.f t147 t146).bind fun t151 => (laws_FnSplitJoin.j0 k t132 t133 t134 t135 t151)) else (laws_FnSplitJoin.j0 k t132 t133 t134 t135 false))))) = some r := H
          have A19 := Aside0.mk A190
          clear A190
          replace H := Option.bind_eq_some_iff.mp H
          obtain ⟨t149, A200, H⟩ := H
          replace H : (if (t148 != t149) = true then (laws_FnSplitJoin.j0 k t132 t133 t134 t135 true) else ((impl_LessString.f t146 t147).bind fun t150 => (if t150 = true then ((impl_LessString.f t147 t146).bind fun t151 => (laws_FnSplitJoin.j0 k t132 t133 t134 t135 t151)) else (laws_FnSplitJoin.j0 k t132 t133 t134 t135 false)))) = some r := H
          have A20 := Aside0.mk A200
          clear A200
          by_cases c21 : (t148 != t149) = true
          · rw [if_pos c21] at H
            have c21b0 : (t148 != t149) = true := c21
            (try (have c21b1 : decide (t148 = t149) = false := by simpa using c21))
            (try (have c21b2 : (t148 == t149) = false := by simpa using c21))
            (try (have c21b3 : ¬ (t148 = t149) := by simpa using c21))
            clear c21
            have H' := Aside0.mk H
            clear H
            go_wp2_with (first | (go_at_call 35; (with_reducible refine (impl_LessString.calls t146 t147 t148 _ A19.out).mono ?_); rintro e w' ⟨rfl, ⟨nd, rfl⟩⟩) | (go_at_call 36; (with_reducible refine (spec_LessString.calls t146 t147 t149 _ A20.out).mono ?_); rintro e w' ⟨rfl, ⟨nd, rfl⟩⟩))
            go_meet
            case rel => exact ⟨_, (true), (by first | rfl | (simp; done) | (simp [*]; done)), H', ⟨by first | omega | exact Nat.le_refl _⟩, ⟨by (with_reducible repeat (first | apply Kd.R_alloc | apply Kd.R_drewN | apply Kd.R_drew)); exact Kd.R_mono HO137.out (fun _ hk => trivial)⟩, ⟨by repeat (first | (with_reducible first | exact HB.out | apply below_alloc | apply pw_below_drewN | apply below_drew1) | exact HB.out)⟩⟩
          · rw [if_neg c21] at H
            have c21b0 : (t148 != t149) = false := by simpa using c21
            (try (have c21b1 : decide (t148 = t149) = true := by simpa using c21))
            (try (have c21b2 : (t148 == t149) = true := by simpa using c21))
            clear c21
            replace H := Option.bind_eq_some_iff.mp H
            obtain ⟨t150, A220, H⟩ := H
            replace H : (if t150 = true then ((impl_LessString.f t147 t146).bind fun t151 => (laws_FnSplitJoin.j0 k t132 t133 t134 t135 t151)) else (laws_FnSplitJoin.j0 k t132 t133 t134 t135 false)) = some r := H
            have A22 := Aside0.mk A220
            clear A220
            by_cases c23 : t150 = true
            · subst c23
              have H1 : ((impl_LessString.f t147 t146).bind fun t151 => (laws_FnSplitJoin.j0 k t132 t133 t134 t135 t151)) = some r := by rw [if_pos rfl] at H; exact H
              clear H
              have H := H1
              clear H1
              replace H := Option.bind_eq_some_iff.mp H
              obtain ⟨t151, A240, H⟩ := H
              replace H : (laws_FnSplitJoin.j0 k t132 t133 t134 t135 t151) = some r := H
              have A24 := Aside0.mk A240
              clear A240
              have H' := Aside0.mk H
              clear H
              obtain rfl : t148 = true := Option.some.inj (A19.out.symm.trans A22.out)
              go_wp2_with (first | (go_at_call 36; (with_reducible refine (spec_LessString.calls t146 t147 t149 _ A20.out).mono ?_); rintro e w' ⟨rfl, ⟨nd, rfl⟩⟩) | (go_at_call 35; (with_reducible refine (impl_LessString.calls t146 t147 true _ A22.out).mono ?_); rintro e w' ⟨rfl, ⟨nd, rfl⟩⟩) | (go_at_call 35; (with_reducible refine (impl_LessString.calls t147 t146 t151 _ A24.out).mono ?_); rintro e w' ⟨rfl, ⟨nd, rfl⟩⟩))
              go_meet
              case rel => exact ⟨_, (t151), (by first | rfl | (simp; done) | (simp [*]; done)), H', ⟨by first | omega | exact Nat.le_refl _⟩, ⟨by (with_reducible repeat (first | apply Kd.R_alloc | apply Kd.R_drewN | apply Kd.R_drew)); exact Kd.R_mono HO137.out (fun _ hk => trivial)⟩, ⟨by repeat (first | (with_reducible first | exact HB.out | apply below_alloc | apply pw_below_drewN | apply below_drew1) | exact HB.out)⟩⟩
            · replace c23 := Bool.eq_false_iff.mpr c23
              subst c23
              have H1 : (laws_FnSplitJoin.j0 k t132 t133 t134 t135 false) = some r := by rw [if_neg (show ¬ (false = true) by decide)] at H; exact H
              clear H
              have H := H1
              clear H1
              have H' := Aside0.mk H
              clear H
              obtain rfl : t148 = false := Option.some.inj (A19.out.symm.trans A22.out)
              go_wp2_with (first | (go_at_call 36; (with_reducible refine (spec_LessString.calls t146 t147 t149 _ A20.out).mono ?_); rintro e w' ⟨rfl, ⟨nd, rfl⟩⟩) | (go_at_call 35; (with_reducible refine (impl_LessString.calls t146 t147 false _ A22.out).mono ?_); rintro e w' ⟨rfl, ⟨nd, rfl⟩⟩))
              go_meet
              case rel => exact ⟨_, (false), (by first | rfl | (simp; done) | (simp [*]; done)), H', ⟨by first | omega | exact Nat.le_refl _⟩, ⟨by (with_reducible repeat (first | apply Kd.R_alloc | apply Kd.R_drewN | apply Kd.R_drew)); exact Kd.R_mono HO137.out (fun _ hk => trivial)⟩, ⟨by repeat (first | (with_reducible first | exact HB.out | apply below_alloc | apply pw_below_drewN | apply below_drew1) | exact HB.out)⟩⟩
      · rw [if_neg c17] at H
        have c17b0 : (t142.toList == t144.toList) = false := beq_eq_false_iff_ne.mpr c17
        have c17b1 : (t142.toList != t144.toList) = true := bne_iff_ne.mpr c17
        (first | rw [c17b0] | (simp only [i64_w, i32_w]; rw [c17b0]) | skip)
        have H' := Aside0.mk H
        clear H
        go_wp2
        go_meet
        case rel => exact ⟨_, (true), (by first | rfl | (simp; done) | (simp [*]; done)), H', ⟨by first | omega | exact Nat.le_refl _⟩, ⟨by (with_reducible repeat (first | apply Kd.R_alloc | apply Kd.R_drewN | apply Kd.R_drew)); exact Kd.R_mono HO137.out (fun _ hk => trivial)⟩, ⟨by repeat (first | (with_reducible first | exact HB.out | apply below_alloc | apply pw_below_drewN | apply below_drew1) | exact HB.out)⟩⟩
    case rest =>
      clear HC10
      try clear c1
      try clear c2
      try clear p2
      try clear c3
      try clear c9
      try clear c17
      try clear c17b0
      try clear c17b1
      try clear c18
      try clear c18b0
      try clear c18b1
      try clear c18b2
      try clear c21
      try clear c21b0
      try clear c21b1
      try clear c21b2
      try clear c23
      obtain ⟨kq, x78_9, rfl, HA, HJ9, HO_5, HB⟩ := hcut
      cases kq with
      | zero => exact absurd HA.out (by simp [laws_FnSplitJoin.j0])
      | succ kj9 =>
        have H := HA.out
        clear HA
        simp only [laws_FnSplitJoin.j0] at H
        by_cases c25 : x78_9 = true
        · subst c25
          have H1 : (some false) = some r := by rw [if_pos rfl] at H; exact H
          clear H
          have H := H1
          clear H1
          obtain rfl := Option.some.inj H
          go_wp2
          go_ret
          exact ⟨by first | rfl | (simp [errW_none, errW_some] <;> rfl) | (simp [*, errW_none, errW_some] <;> rfl), by repeat (first | (with_reducible first | exact HB.out | apply below_alloc | apply pw_below_drewN | apply below_drew1) | exact HB.out)⟩
        · replace c25 := Bool.eq_false_iff.mpr c25
          subst c25
          have H1 : (if (t133.size : Int) = 1 then ((impl_JoinStrings.f kj9 t134 t133).bind fun bt152 => (if t135 = true then (if bt152.2 = true then (some (bt152.1.toList == t132.toList)) else (some false)) else (some false))) else (if t135 = true then (some false) else (some ((t134.length : Int) == 0)))) = some r := by rw [if_neg (show ¬ (false = true) by decide)] at H; exact H
          clear H
          have H := H1
          clear H1
          by_cases c26 : (t133.size : Int) = 1
          · rw [if_pos c26] at H
            have c26b0 : ((t133.size : Int) == 1) = true := beq_iff_eq.mpr c26
            have c26b1 : ((t133.size : Int) != 1) = false := bne_eq_false_iff_eq.mpr c26
            clear c26
            replace H := Option.bind_eq_some_iff.mp H
            obtain ⟨⟨t152, t153⟩, A270, H⟩ := H
            replace H : (if t135 = true then (if t153 = true then (some (t152.toList == t132.toList)) else (some false)) else (some false)) = some r := H
            have A27 := Aside0.mk A270
            clear A270
            by_cases c28 : t135 = true
            · subst c28
              have H1 : (if t153 = true then (some (t152.toList == t132.toList)) else (some false)) = some r := by rw [if_pos rfl] at H; exact H
              clear H
              have H := H1
              clear H1
              by_cases c29 : t153 = true
              · subst c29
                have H1 : (some (t152.toList == t132.toList)) = some r := by rw [if_pos rfl] at H; exact H
                clear H
                have H := H1
                clear H1
                obtain rfl := Option.some.inj H
                obtain ⟨Ao30, co30, eo30⟩ := Kd.R_slice HO_5.out
                subst eo30
                go_wp2_with (first | ((with_reducible refine gate_callee (f := 32) rfl ?_); refine goesL_ (some 92) rfl rfl Tryd.func32 (by kernel_rfl) rfl #[.slice Ao30 t134.length co30, .string t133] rfl (by (try simp only [List.map_toArray, List.map_cons, List.map_nil]); first | done | rfl | (simp only [List.length_drop, List.length_take]; rfl)) ?_; (with_reducible refine (impl_JoinStrings.calls kj9 _ _ t134 t133 t152 true _ ?side1 ?side2 A27.out).mono ?_); (case side1 => repeat (first | exact (Kd.R_reads' HO_5.out).2.2 | (with_reducible refine Kd.C_alloc ?_ _) | (with_reducible refine Kd.C_drewN ?_ _) | (with_reducible refine Kd.C_drew ?_))); (case side2 => exact (Kd.R_reads' HO_5.out).2.1); rintro e w31 ⟨rfl, hb⟩; refine ⟨_, rfl, ?_⟩; have n0_ := Aside0.mk (Kd.R_below (by (with_reducible repeat (first | apply Kd.R_alloc | apply Kd.R_drewN | apply Kd.R_drew)); exact HO_5.out) hb); have n1_ := Aside0.mk (below_step (by repeat (first | (with_reducible first | exact HB.out | apply below_alloc | apply pw_below_drewN | apply below_drew1) | exact HB.out)) hb); clear HO_5; clear HB; have HO_5 := n0_; have HB := n1_; clear n0_ n1_; (try clear hb); (try clear hb2); (try clear hk); (try clear hi)))
                go_ret
                exact ⟨by first | rfl | (simp [errW_none, errW_some] <;> rfl) | (simp [*, errW_none, errW_some] <;> rfl), by repeat (first | (with_reducible first | exact HB.out | apply below_alloc | apply pw_below_drewN | apply below_drew1) | exact HB.out)⟩
              · replace c29 := Bool.eq_false_iff.mpr c29
                subst c29
                have H1 : (some false) = some r := by rw [if_neg (show ¬ (false = true) by decide)] at H; exact H
                clear H
                have H := H1
                clear H1
                obtain rfl := Option.some.inj H
                obtain ⟨Ao32, co32, eo32⟩ := Kd.R_slice HO_5.out
                subst eo32
                go_wp2_with (first | ((with_reducible refine gate_callee (f := 32) rfl ?_); refine goesL_ (some 92) rfl rfl Tryd.func32 (by kernel_rfl) rfl #[.slice Ao32 t134.length co32, .string t133] rfl (by (try simp only [List.map_toArray, List.map_cons, List.map_nil]); first | done | rfl | (simp only [List.length_drop, List.length_take]; rfl)) ?_; (with_reducible refine (impl_JoinStrings.calls kj9 _ _ t134 t133 t152 false _ ?side1 ?side2 A27.out).mono ?_); (case side1 => repeat (first | exact (Kd.R_reads' HO_5.out).2.2 | (with_reducible refine Kd.C_alloc ?_ _) | (with_reducible refine Kd.C_drewN ?_ _) | (with_reducible refine Kd.C_drew ?_))); (case side2 => exact (Kd.R_reads' HO_5.out).2.1); rintro e w33 ⟨rfl, hb⟩; refine ⟨_, rfl, ?_⟩; have n0_ := Aside0.mk (Kd.R_below (by (with_reducible repeat (first | apply Kd.R_alloc | apply Kd.R_drewN | apply Kd.R_drew)); exact HO_5.out) hb); have n1_ := Aside0.mk (below_step (by repeat (first | (with_reducible first | exact HB.out | apply below_alloc | apply pw_below_drewN | apply below_drew1) | exact HB.out)) hb); clear HO_5; clear HB; have HO_5 := n0_; have HB := n1_; clear n0_ n1_; (try clear hb); (try clear hb2); (try clear hk); (try clear hi)))
                go_ret
                exact ⟨by first | rfl | (simp [errW_none, errW_some] <;> rfl) | (simp [*, errW_none, errW_some] <;> rfl), by repeat (first | (with_reducible first | exact HB.out | apply below_alloc | apply pw_below_drewN | apply below_drew1) | exact HB.out)⟩
            · replace c28 := Bool.eq_false_iff.mpr c28
              subst c28
              have H1 : (some false) = some r := by rw [if_neg (show ¬ (false = true) by decide)] at H; exact H
              clear H
              have H := H1
              clear H1
              obtain rfl := Option.some.inj H
              obtain ⟨Ao34, co34, eo34⟩ := Kd.R_slice HO_5.out
              subst eo34
              go_wp2_with (first | ((with_reducible refine gate_callee (f := 32) rfl ?_); refine goesL_ (some 92) rfl rfl Tryd.func32 (by kernel_rfl) rfl #[.slice Ao34 t134.length co34, .string t133] rfl (by (try simp only [List.map_toArray, List.map_cons, List.map_nil]); first | done | rfl | (simp only [List.length_drop, List.length_take]; rfl)) ?_; (with_reducible refine (impl_JoinStrings.calls kj9 _ _ t134 t133 t152 t153 _ ?side1 ?side2 A27.out).mono ?_); (case side1 => repeat (first | exact (Kd.R_reads' HO_5.out).2.2 | (with_reducible refine Kd.C_alloc ?_ _) | (with_reducible refine Kd.C_drewN ?_ _) | (with_reducible refine Kd.C_drew ?_))); (case side2 => exact (Kd.R_reads' HO_5.out).2.1); rintro e w35 ⟨rfl, hb⟩; refine ⟨_, rfl, ?_⟩; have n0_ := Aside0.mk (Kd.R_below (by (with_reducible repeat (first | apply Kd.R_alloc | apply Kd.R_drewN | apply Kd.R_drew)); exact HO_5.out) hb); have n1_ := Aside0.mk (below_step (by repeat (first | (with_reducible first | exact HB.out | apply below_alloc | apply pw_below_drewN | apply below_drew1) | exact HB.out)) hb); clear HO_5; clear HB; have HO_5 := n0_; have HB := n1_; clear n0_ n1_; (try clear hb); (try clear hb2); (try clear hk); (try clear hi)))
              go_ret
              exact ⟨by first | rfl | (simp [errW_none, errW_some] <;> rfl) | (simp [*, errW_none, errW_some] <;> rfl), by repeat (first | (with_reducible first | exact HB.out | apply below_alloc | apply pw_below_drewN | apply below_drew1) | exact HB.out)⟩
          · rw [if_neg c26] at H
            have c26b0 : ((t133.size : Int) == 1) = false := beq_eq_false_iff_ne.mpr c26
            have c26b1 : ((t133.size : Int) != 1) = true := bne_iff_ne.mpr c26
            by_cases c36 : t135 = true
            · subst c36
              have H1 : (some false) = some r := by rw [if_pos rfl] at H; exact H
              clear H
              have H := H1
              clear H1
              obtain rfl := Option.some.inj H
              go_wp2
              go_ret
              exact ⟨by first | rfl | (simp [errW_none, errW_some] <;> rfl) | (simp [*, errW_none, errW_some] <;> rfl), by repeat (first | (with_reducible first | exact HB.out | apply below_alloc | apply pw_below_drewN | apply below_drew1) | exact HB.out)⟩
            · replace c36 := Bool.eq_false_iff.mpr c36
              subst c36
              have H1 : (some ((t134.length : Int) == 0)) = some r := by rw [if_neg (show ¬ (false = true) by decide)] at H; exact H
              clear H
              have H := H1
              clear H1
              obtain rfl := Option.some.inj H
              obtain ⟨Ao37, co37, eo37⟩ := Kd.R_slice HO_5.out
              subst eo37
              go_wp2
              go_ret
              exact ⟨by first | rfl | (simp [errW_none, errW_some] <;> rfl) | (simp [*, errW_none, errW_some] <;> rfl), by repeat (first | (with_reducible first | exact HB.out | apply below_alloc | apply pw_below_drewN | apply below_drew1) | exact HB.out)⟩

/-- THE ONE PURE STATEMENT of laws_FnSplitJoin: yours. -/
def laws_FnSplitJoin.Pure : Prop := ∀ (l0 : List Int), l0.length ≤ maxLen → l0.length * 1 ≤ 140737488351232 → (∀ x ∈ l0, (Lit.int .u8 x).wf = true) → ∃ k, laws_FnSplitJoin.f k l0 = some true
end Go.Proofs.YtbdbogpmnmcaeaaDoor.PFnSplitJoin
