/- impl.BudgetOrders and spec.BudgetOrders answer as impl_BudgetOrders.f and spec_BudgetOrders.f do, within the rounds. Conditions: the arguments' rows are there. -/
import Derived.Test.YtnojmhcmngejnaaQFnExactBudgetOrdersx5
import Derived.Test.YtnojmhcmngejnaaQFnExactBudgetOrdersx6
namespace Go.Proofs.Ytnojmhcmngejnaa.PFnExactBudgetOrders
open Go.RowKit Go.Proofs.YtnojmhcmngejnaaW.PrintWords Go.Proofs.YtnojmhcmngejnaaW.PrintLast Go.Proofs.YtnojmhcmngejnaaW.PrintMore Go.Proofs.Ytnojmhcmngejnaa.Hold
set_option linter.unusedVariables false
set_option linter.unusedSimpArgs false
theorem Bud.R_lit0 (w : World) (B : Nat) (hB : B ≤ w.heap.size) : Kd.R (Kd.int .i64) 3 (w.alloc (.cells #[] 3)) B (fun _ => True) (.slice (some ⟨w.heap.size, 0, none⟩) 0 0) [] :=
  Kd.R_of_own (h1 := fun _ => rfl) (xs := []) ⟨by simp [encs], .inr ⟨w.heap.size, 0, #[], rfl, hB, heap_alloc_new w _, Nat.le_refl _, by unfold maxLen; omega, by simp, by simp [encs]⟩⟩ (fun _ _ => trivial)
theorem Bud.R_lit1 (w : World) (n : Nat) : Kd.R (Kd.int .i64) 3 ((w.drewN n).alloc (.cells #[] 3)) w.heap.size (fun _ => True) (.slice (some ⟨w.heap.size, 0, none⟩) 0 0) [] := Bud.R_lit0 (w.drewN n) w.heap.size (Nat.le_refl _)
set_option maxHeartbeats 2000000 in
set_option maxRecDepth 100000 in
theorem spec_BudgetOrders.walk (k : Nat) (A0 : Option Addr) (c0 : Nat) (g : List (List Int)) (o u : Int) (A1 : Option Addr) (c1 : Nat) (p : List Int) (m : Int) (r1 : List Int) (r2 : Bool) (w : World) (hr0 : Kd.C (Kd.slice 3 (Kd.int .i64)) w A0 g.length g) (hc0 : g.length ≤ c0) (hr1 : Kd.C (Kd.int .i64) w A1 p.length p) (hc1 : p.length ≤ c1) (h : spec_BudgetOrders.f k g o u p m = some (r1, r2)) :
    Calls Try.prog 24 #[.slice A0 g.length c0, .int .i64 o, .int .i64 u, .slice A1 p.length c1, .int .i64 m] w fun e w' => ∃ v : Value, e = .returned (.tuple #[v, .bool r2]) ∧ Kd.R (Kd.int .i64) 3 w' w.heap.size (fun _ => True) v r1 ∧ Below w.heap.size w w' := by
  have HR0 := Aside0.mk hr0
  have HC0 := Aside0.mk hc0
  have HR1 := Aside0.mk hr1
  have HC1 := Aside0.mk hc1
  clear hr0 hc0 hr1 hc1
  simp only [spec_BudgetOrders.f] at h
  obtain ⟨t, ht, h⟩ := Option.bind_eq_some_iff.mp h
  have HT0 := Aside0.mk ht
  clear ht
  cases t with
  | false =>
    rw [if_neg (by decide)] at h
    simp only [Option.some.injEq, Prod.mk.injEq] at h
    obtain ⟨rfl, rfl⟩ := h
    go_enter Try.func24, Try.ntmps24
    go_wp2_with (first | (go_at_call 46; (with_reducible refine (spec_l5Goods.calls k A0 c0 g false _ (by repeat (first | exact HR0.out | refine Kd.C_drewN ?_ _)) HC0.out HT0.out).mono ?_); rintro e w' ⟨rfl, ⟨nd0, rfl⟩⟩))
    go_ret2
    exact ⟨_, rfl, Bud.R_lit0 _ _ (Nat.le_refl _), by repeat (first | (with_reducible first | exact Below.refl _ _ | apply below_alloc | apply pw_below_drewN) | exact Below.refl _ _)⟩
  | true =>
    rw [if_pos rfl] at h
    obtain ⟨t1, ht, h⟩ := Option.bind_eq_some_iff.mp h
    have HT1 := Aside0.mk ht
    clear ht
    cases t1 with
    | false =>
      rw [if_neg (by decide)] at h
      simp only [Option.some.injEq, Prod.mk.injEq] at h
      obtain ⟨rfl, rfl⟩ := h
      go_enter Try.func24, Try.ntmps24
      go_wp2_with (first | (go_at_call 46; (with_reducible refine (spec_l5Goods.calls k A0 c0 g true _ (by repeat (first | exact HR0.out | refine Kd.C_drewN ?_ _)) HC0.out HT0.out).mono ?_); rintro e w' ⟨rfl, ⟨nd0, rfl⟩⟩) | (go_at_call 39; (with_reducible refine (spec_l5Charges.calls o u false _ HT1.out).mono ?_); rintro e w' ⟨rfl, ⟨nd1, rfl⟩⟩))
      go_ret2
      exact ⟨_, rfl, Bud.R_lit0 _ _ (Nat.le_refl _), by repeat (first | (with_reducible first | exact Below.refl _ _ | apply below_alloc | apply pw_below_drewN) | exact Below.refl _ _)⟩
    | true =>
      rw [if_pos rfl] at h
      obtain ⟨t2, ht, h⟩ := Option.bind_eq_some_iff.mp h
      have HT2 := Aside0.mk ht
      clear ht
      cases t2 with
      | false =>
        rw [if_neg (by decide)] at h
        simp only [Option.some.injEq, Prod.mk.injEq] at h
        obtain ⟨rfl, rfl⟩ := h
        go_enter Try.func24, Try.ntmps24
        go_wp2_with (first | (go_at_call 46; (with_reducible refine (spec_l5Goods.calls k A0 c0 g true _ (by repeat (first | exact HR0.out | refine Kd.C_drewN ?_ _)) HC0.out HT0.out).mono ?_); rintro e w' ⟨rfl, ⟨nd0, rfl⟩⟩) | (go_at_call 39; (with_reducible refine (spec_l5Charges.calls o u true _ HT1.out).mono ?_); rintro e w' ⟨rfl, ⟨nd1, rfl⟩⟩) | (go_at_call 51; (with_reducible refine (spec_l2Row.calls k A1 c1 p (g.length : Int) 20 false _ (by repeat (first | exact HR1.out | refine Kd.C_drewN ?_ _)) HC1.out HT2.out).mono ?_); rintro e w' ⟨rfl, ⟨nd2, rfl⟩⟩))
        go_ret2
        exact ⟨_, rfl, Bud.R_lit0 _ _ (Nat.le_refl _), by repeat (first | (with_reducible first | exact Below.refl _ _ | apply below_alloc | apply pw_below_drewN) | exact Below.refl _ _)⟩
      | true =>
        rw [if_pos rfl] at h
        obtain ⟨t3, ht, h⟩ := Option.bind_eq_some_iff.mp h
        have HT3 := Aside0.mk ht
        clear ht
        cases t3 with
        | false =>
          rw [if_neg (by decide)] at h
          simp only [Option.some.injEq, Prod.mk.injEq] at h
          obtain ⟨rfl, rfl⟩ := h
          go_enter Try.func24, Try.ntmps24
          go_wp2_with (first | (go_at_call 46; (with_reducible refine (spec_l5Goods.calls k A0 c0 g true _ (by repeat (first | exact HR0.out | refine Kd.C_drewN ?_ _)) HC0.out HT0.out).mono ?_); rintro e w' ⟨rfl, ⟨nd0, rfl⟩⟩) | (go_at_call 39; (with_reducible refine (spec_l5Charges.calls o u true _ HT1.out).mono ?_); rintro e w' ⟨rfl, ⟨nd1, rfl⟩⟩) | (go_at_call 51; (with_reducible refine (spec_l2Row.calls k A1 c1 p (g.length : Int) 20 true _ (by repeat (first | exact HR1.out | refine Kd.C_drewN ?_ _)) HC1.out HT2.out).mono ?_); rintro e w' ⟨rfl, ⟨nd2, rfl⟩⟩) | (go_at_call 47; (with_reducible refine (spec_l1In.calls m 0 60 false _ HT3.out).mono ?_); rintro e w' ⟨rfl, ⟨nd3, rfl⟩⟩))
          go_ret2
          exact ⟨_, rfl, Bud.R_lit0 _ _ (Nat.le_refl _), by repeat (first | (with_reducible first | exact Below.refl _ _ | apply below_alloc | apply pw_below_drewN) | exact Below.refl _ _)⟩
        | true =>
          rw [if_pos rfl] at h
          obtain ⟨⟨b1, b2, b3⟩, ht, h⟩ := Option.bind_eq_some_iff.mp h
          simp only [Option.some.injEq, Prod.mk.injEq] at h
          obtain ⟨rfl, rfl⟩ := h
          have HT4 := Aside0.mk ht
          clear ht
          have hfd : ∀ (A : Option Addr) (n_ c_ : Nat) (x_ : Int) (y_ : Bool) (w_ : World), (Instr.field 62 (.agg #[.slice A n_ c_, .int .i64 x_, .bool y_]) 0).run Try.prog w_ = .ok (.slice A n_ c_) w_ := fun _ _ _ _ _ _ => by kernel_rfl
          go_enter Try.func24, Try.ntmps24
          go_wp2_with (first | (go_at_call 46; (with_reducible refine (spec_l5Goods.calls k A0 c0 g true _ (by repeat (first | exact HR0.out | refine Kd.C_drewN ?_ _)) HC0.out HT0.out).mono ?_); rintro e w' ⟨rfl, ⟨nd0, rfl⟩⟩) | (go_at_call 39; (with_reducible refine (spec_l5Charges.calls o u true _ HT1.out).mono ?_); rintro e w' ⟨rfl, ⟨nd1, rfl⟩⟩) | (go_at_call 51; (with_reducible refine (spec_l2Row.calls k A1 c1 p (g.length : Int) 20 true _ (by repeat (first | exact HR1.out | refine Kd.C_drewN ?_ _)) HC1.out HT2.out).mono ?_); rintro e w' ⟨rfl, ⟨nd2, rfl⟩⟩) | (go_at_call 47; (with_reducible refine (spec_l1In.calls m 0 60 true _ HT3.out).mono ?_); rintro e w' ⟨rfl, ⟨nd3, rfl⟩⟩) | (go_at_call 52; (with_reducible refine (spec_l5Try.walk k k (Nat.le_refl _) g p A0 A1 c0 c1 o u m 0 0 false [] [] _ _ b1 b2 b3 _ w.heap.size (fun _ => True) ?hB (fun _ _ => trivial) (by repeat (first | exact HR0.out | refine Kd.C_drewN ?_ _ | refine Kd.C_alloc ?_ _)) HC0.out (by repeat (first | exact HR1.out | refine Kd.C_drewN ?_ _ | refine Kd.C_alloc ?_ _)) HC1.out (Bud.R_lit1 w (nd0 + nd1 + nd2 + nd3)) (Kd.R_nil _ _ _ _ _) HT4.out).mono ?_); (case hB => simp; done); rintro e w6 ⟨v6, rfl, ho6, hb6⟩; obtain ⟨Av6, cv6, rfl⟩ := Kd.R_slice ho6; have HO6 := Aside0.mk ho6; have HB6 := Aside0.mk hb6; clear ho6 hb6))
          go_ret2
          exact ⟨_, rfl, HO6.out, by
            have h1 : Below w.heap.size w (World.alloc (w.drewN (nd0 + nd1 + nd2 + nd3)) (Obj.cells #[] 3)) := below_alloc (pw_below_drewN (Below.refl _ _) _) _
            exact below_step h1 HB6.out⟩
theorem spec_BudgetOrders.calls (k : Nat) (A0 : Option Addr) (c0 : Nat) (l0 : List (List Int)) (a1 : Int) (a2 : Int) (A3 : Option Addr) (c3 : Nat) (l3 : List Int) (a4 : Int) (r1 : List Int) (r2 : Bool) (w : World) (hr0 : Kd.C (Kd.slice 3 (Kd.int .i64)) w A0 l0.length l0) (hc0 : l0.length ≤ c0) (hr3 : Kd.C (Kd.int .i64) w A3 l3.length l3) (hc3 : l3.length ≤ c3) (h : spec_BudgetOrders.f k l0 a1 a2 l3 a4 = some (r1, r2)) :
    Calls Try.prog 24 #[.slice A0 l0.length c0, .int .i64 a1, .int .i64 a2, .slice A3 l3.length c3, .int .i64 a4] w fun e w' => ∃ v0_ : Value, e = .returned (.tuple #[v0_, .bool r2]) ∧ Kd.R (Kd.int .i64) 3 w' w.heap.size (fun _ => True) v0_ r1 ∧ Below w.heap.size w w' := by
  exact spec_BudgetOrders.walk k A0 c0 l0 a1 a2 A3 c3 l3 a4 r1 r2 w hr0 hc0 hr3 hc3 h
end Go.Proofs.Ytnojmhcmngejnaa.PFnExactBudgetOrders
