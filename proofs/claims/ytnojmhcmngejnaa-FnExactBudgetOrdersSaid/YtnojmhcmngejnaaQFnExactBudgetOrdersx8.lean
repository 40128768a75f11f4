/- impl.BudgetOrders answers as impl_BudgetOrders.f does, within the rounds. Conditions: the arguments' rows are there. -/
import Derived.Test.YtnojmhcmngejnaaQFnExactBudgetOrdersx7
import Derived.Laws.EntriesVeiled
namespace Go.Proofs.Ytnojmhcmngejnaa.PFnExactBudgetOrders
open Go.RowKit Go.Proofs.YtnojmhcmngejnaaW.PrintWords Go.Proofs.YtnojmhcmngejnaaW.PrintLast Go.Proofs.YtnojmhcmngejnaaW.PrintMore Go.Proofs.Ytnojmhcmngejnaa.Hold
set_option linter.unusedVariables false
set_option linter.unusedSimpArgs false
theorem Bud.box4 (w : World) (o1 o2 o3 o4 : Obj) : ((((w.alloc o1).alloc o2).alloc o3).alloc o4).heap[w.heap.size]? = some o1 ∧ ((((w.alloc o1).alloc o2).alloc o3).alloc o4).heap[w.heap.size + 1]? = some o2 ∧ ((((w.alloc o1).alloc o2).alloc o3).alloc o4).heap[w.heap.size + 2]? = some o3 ∧ ((((w.alloc o1).alloc o2).alloc o3).alloc o4).heap[w.heap.size + 3]? = some o4 ∧ ((((w.alloc o1).alloc o2).alloc o3).alloc o4).heap.size = w.heap.size + 4 ∧ Below w.heap.size w ((((w.alloc o1).alloc o2).alloc o3).alloc o4) := by
  refine ⟨?_, ?_, ?_, ?_, by simp, below_alloc (below_alloc (below_alloc (below_alloc (Below.refl _ _) _) _) _) _⟩
  · rw [Go.heap_alloc_old _ _ (by simp; omega), Go.heap_alloc_old _ _ (by simp; omega)]; exact heap_alloc2_old w o1 o2
  · rw [Go.heap_alloc_old _ _ (by simp), Go.heap_alloc_old _ _ (by simp)]; exact heap_alloc2_new w o1 o2
  · rw [Go.heap_alloc_old _ _ (by simp)]; have := Go.heap_alloc_new ((w.alloc o1).alloc o2) o3; simpa using this
  · have := Go.heap_alloc_new (((w.alloc o1).alloc o2).alloc o3) o4; simpa using this
theorem Bud.two (w : World) (o1 o2 : Obj) : ((w.alloc o1).alloc o2).heap[w.heap.size]? = some o1 ∧ ((w.alloc o1).alloc o2).heap[w.heap.size + 1]? = some o2 := by
  exact ⟨heap_alloc2_old w o1 o2, heap_alloc2_new w o1 o2⟩
theorem Bud.three (w : World) (v : Value) (o2 o3 : Obj) : ((((w.alloc (.cells #[.slice none 0 0] 23)).setCell ⟨w.heap.size, 0, none⟩ v).alloc o2).alloc o3).heap[w.heap.size]? = some (.cells #[v] 23 (0, 0)) ∧ ((((w.alloc (.cells #[.slice none 0 0] 23)).setCell ⟨w.heap.size, 0, none⟩ v).alloc o2).alloc o3).heap[w.heap.size + 1]? = some o2 ∧ ((((w.alloc (.cells #[.slice none 0 0] 23)).setCell ⟨w.heap.size, 0, none⟩ v).alloc o2).alloc o3).heap[w.heap.size + 2]? = some o3 ∧ ((((w.alloc (.cells #[.slice none 0 0] 23)).setCell ⟨w.heap.size, 0, none⟩ v).alloc o2).alloc o3).heap.size = w.heap.size + 3 ∧ Below w.heap.size w ((((w.alloc (.cells #[.slice none 0 0] 23)).setCell ⟨w.heap.size, 0, none⟩ v).alloc o2).alloc o3) := by
  have h1 : ((w.alloc (.cells #[.slice none 0 0] 23)).setCell ⟨w.heap.size, 0, none⟩ v).heap[w.heap.size]? = some (.cells #[v] 23 (0, 0)) := blk_put (Go.heap_alloc_new w _) 0 v rfl
  have h2 : ((w.alloc (.cells #[.slice none 0 0] 23)).setCell ⟨w.heap.size, 0, none⟩ v).heap.size = w.heap.size + 1 := by simp [World.setCell]
  have h3 : Below w.heap.size w ((w.alloc (.cells #[.slice none 0 0] 23)).setCell ⟨w.heap.size, 0, none⟩ v) := below_set (below_alloc (Below.refl _ _) _) (Nat.le_refl _)
  generalize (w.alloc (.cells #[.slice none 0 0] 23)).setCell ⟨w.heap.size, 0, none⟩ v = W at h1 h2 h3 ⊢
  refine ⟨?_, ?_, ?_, by simp [h2], below_alloc (below_alloc h3 _) _⟩
  · rw [Go.heap_alloc_old _ _ (by simp [h2]; omega), Go.heap_alloc_old _ _ (by omega)]; exact h1
  · have := heap_alloc2_old W o2 o3; rwa [h2] at this
  · have := heap_alloc2_new W o2 o3; rwa [h2] at this
theorem calls_world {P : Program} {f : FuncId} {as_ : Array Value} {w W : World} {Q : Ending → World → Prop} (h : w = W) (hc : Calls P f as_ W Q) : Calls P f as_ w Q := h ▸ hc
set_option maxHeartbeats 2000000 in
set_option maxRecDepth 100000 in
theorem impl_BudgetOrders.walk (k : Nat) (A0 : Option Addr) (c0 : Nat) (g : List (List Int)) (o u : Int) (A1 : Option Addr) (c1 : Nat) (p : List Int) (m : Int) (r1 : List Int) (r2 : Bool) (w : World) (hr0 : Kd.C (Kd.slice 3 (Kd.int .i64)) w A0 g.length g) (hc0 : g.length ≤ c0) (hr1 : Kd.C (Kd.int .i64) w A1 p.length p) (hc1 : p.length ≤ c1) (h : impl_BudgetOrders.f k g o u p m = some (r1, r2)) :
    Calls Try.prog 25 #[.slice A0 g.length c0, .int .i64 o, .int .i64 u, .slice A1 p.length c1, .int .i64 m] w fun e w' => ∃ v : Value, e = .returned (.tuple #[v, .bool r2]) ∧ Kd.R (Kd.int .i64) 3 w' w.heap.size (fun _ => True) v r1 ∧ Below w.heap.size w w' := by
  have HR0 := Aside0.mk hr0
  have HC0 := Aside0.mk hc0
  have HR1 := Aside0.mk hr1
  have HC1 := Aside0.mk hc1
  simp only [impl_BudgetOrders.f] at h
  obtain ⟨t, ht, h⟩ := Option.bind_eq_some_iff.mp h
  have HT := Aside0.mk ht
  have HH := Aside0.mk h
  clear hr0 hc0 hr1 hc1 h ht
  go_enter Try.func25, Try.ntmps25
  go_wp2_with fail
  have BX := Aside0.mk (Bud.box4 w (Obj.cells #[Value.slice A0 g.length c0] 33) (Obj.cells #[Value.int IntKind.i64 o] 3) (Obj.cells #[Value.int IntKind.i64 u] 3) (Obj.cells #[Value.slice A1 p.length c1] 23))
  generalize (((w.alloc (Obj.cells #[Value.slice A0 g.length c0] 33)).alloc (Obj.cells #[Value.int IntKind.i64 o] 3)).alloc (Obj.cells #[Value.int IntKind.i64 u] 3)).alloc (Obj.cells #[Value.slice A1 p.length c1] 23) = w1 at BX ⊢
  rw [show w.heap.size + 1 + 1 + 1 = w.heap.size + 3 from rfl, show w.heap.size + 1 + 1 = w.heap.size + 2 from rfl]
  have HB1 := Aside0.mk BX.out.2.2.2.2.2
  refine (impl_areGoods.calls k A0 c0 g o u t w1 (Kd.C_below HR0.out HB1.out) HC0.out HT.out).mono ?_
  rintro e w2 ⟨rfl, hb2⟩
  have HB2 := Aside0.mk (below_step HB1.out hb2)
  have HS2 := Aside0.mk (show w.heap.size + 4 ≤ w2.heap.size from by have := hb2.size; have := BX.out.2.2.2.2.1; omega)
  have X0 := Aside0.mk ((hb2.block w.heap.size (by have := BX.out.2.2.2.2.1; omega)).trans BX.out.1)
  have X1 := Aside0.mk ((hb2.block (w.heap.size + 1) (by have := BX.out.2.2.2.2.1; omega)).trans BX.out.2.1)
  have X2 := Aside0.mk ((hb2.block (w.heap.size + 2) (by have := BX.out.2.2.2.2.1; omega)).trans BX.out.2.2.1)
  have X3 := Aside0.mk ((hb2.block (w.heap.size + 3) (by have := BX.out.2.2.2.2.1; omega)).trans BX.out.2.2.2.1)
  clear hb2 BX HB1
  have hk0 : w2.cell? ⟨w.heap.size, 0, none⟩ = some (.slice A0 g.length c0) := (blk_cell X0.out 0).trans rfl
  have hk3 : w2.cell? ⟨w.heap.size + 3, 0, none⟩ = some (.slice A1 p.length c1) := (blk_cell X3.out 0).trans rfl
  have h := HH.out
  clear HH
  cases t with
  | false =>
    rw [if_neg (by decide)] at h
    simp only [Option.some.injEq, Prod.mk.injEq] at h
    obtain ⟨rfl, rfl⟩ := h
    go_wp2_with fail
    go_ret2
    exact ⟨_, rfl, Kd.R_nil _ _ _ _ _, HB2.out⟩
  | true =>
    rw [if_pos rfl] at h
    by_cases c2 : (p.length : Int) = (g.length : Int)
    · rw [if_pos c2] at h
      have c2b : decide ((p.length : Int) = (g.length : Int)) = true := decide_eq_true c2
      have c2c : ((p.length : Int) == (g.length : Int)) = true := beq_iff_eq.2 c2
      have c2d : ((p.length : Int) != (g.length : Int)) = false := by simp [c2]
      obtain ⟨t2, ht2, h⟩ := Option.bind_eq_some_iff.mp h
      have HT2 := Aside0.mk ht2
      clear ht2 c2
      cases t2 with
      | false =>
        rw [if_neg (by decide)] at h
        simp only [Option.some.injEq, Prod.mk.injEq] at h
        obtain ⟨rfl, rfl⟩ := h
        go_wp2_with (go_at_call 43; (with_reducible refine (impl_areCharges.calls k A1 c1 p _ w2 (Kd.C_below HR1.out HB2.out) HC1.out HT2.out).mono ?_); rintro e w' ⟨rfl, ⟨nd1, rfl⟩⟩)
        go_ret2
        exact ⟨_, rfl, Kd.R_nil _ _ _ _ _, by repeat (first | exact HB2.out | refine pw_below_drewN ?_ _)⟩
      | true =>
        rw [if_pos rfl] at h
        obtain ⟨t3, ht3, h⟩ := Option.bind_eq_some_iff.mp h
        have HT3 := Aside0.mk ht3
        clear ht3
        cases t3 with
        | false =>
          rw [if_neg (by decide)] at h
          simp only [Option.some.injEq, Prod.mk.injEq] at h
          obtain ⟨rfl, rfl⟩ := h
          go_wp2_with (first | (go_at_call 43; (with_reducible refine (impl_areCharges.calls k A1 c1 p _ w2 (Kd.C_below HR1.out HB2.out) HC1.out HT2.out).mono ?_); rintro e w' ⟨rfl, ⟨nd1, rfl⟩⟩) | (go_at_call 50; (with_reducible refine (impl_within.calls m 0 60 _ _ HT3.out).mono ?_); rintro e w' ⟨rfl, ⟨nd2, rfl⟩⟩))
          go_ret2
          exact ⟨_, rfl, Kd.R_nil _ _ _ _ _, by repeat (first | exact HB2.out | refine pw_below_drewN ?_ _)⟩
        | true =>
          rw [if_pos rfl] at h
          obtain ⟨⟨b1, b2⟩, ht, h⟩ := Option.bind_eq_some_iff.mp h
          simp only [Option.some.injEq, Prod.mk.injEq] at h
          obtain ⟨rfl, rfl⟩ := h
          have HC := Aside0.mk ht
          clear ht
          have hA : ∀ n, (((w2.drewN n).alloc (Obj.cells #[Value.slice none 0 0] 23)).alloc (Obj.cells #[Value.int IntKind.i64 0] 3)).cell? ⟨w2.heap.size, 0, none⟩ = some (.slice none 0 0) := fun n => (blk_cell (Bud.two (w2.drewN n) _ _).1 0).trans rfl
          have hB : ∀ n, (((w2.drewN n).alloc (Obj.cells #[Value.slice none 0 0] 23)).alloc (Obj.cells #[Value.int IntKind.i64 0] 3)).frozen? ⟨w2.heap.size, 0, none⟩ = false := fun n => blk_frozen (Bud.two (w2.drewN n) _ _).1 0
          have hC : ∀ n, ((((w2.drewN n).alloc (Obj.cells #[Value.slice none 0 0] 23)).alloc (Obj.cells #[Value.int IntKind.i64 0] 3)).setCell ⟨w2.heap.size, 0, none⟩ (.slice none 0 0)).cell? ⟨w2.heap.size + 1, 0, none⟩ = some (.int .i64 0) := fun n => (blk_cell (blk_far (Bud.two (w2.drewN n) _ _).2 (by show w2.heap.size + 1 ≠ w2.heap.size; omega) _) 0).trans rfl
          have hD : ∀ n, ((((w2.drewN n).alloc (Obj.cells #[Value.slice none 0 0] 23)).alloc (Obj.cells #[Value.int IntKind.i64 0] 3)).setCell ⟨w2.heap.size, 0, none⟩ (.slice none 0 0)).frozen? ⟨w2.heap.size + 1, 0, none⟩ = false := fun n => blk_frozen (blk_far (Bud.two (w2.drewN n) _ _).2 (by show w2.heap.size + 1 ≠ w2.heap.size; omega) _) 0
          have hE : ∀ n, (((((w2.drewN n).alloc (Obj.cells #[Value.slice none 0 0] 23)).setCell { block := w2.heap.size, off := 0 } (Value.slice none 0 0)).alloc (Obj.cells #[Value.int IntKind.i64 1099511627776] 3)).alloc (Obj.cells #[Value.nilFunc] 64)).cell? ⟨w2.heap.size + 1 + 1, 0, none⟩ = some .nilFunc := fun n => (blk_cell (Bud.three (w2.drewN n) _ _ _).2.2.1 0).trans rfl
          have hF : ∀ n, (((((w2.drewN n).alloc (Obj.cells #[Value.slice none 0 0] 23)).setCell { block := w2.heap.size, off := 0 } (Value.slice none 0 0)).alloc (Obj.cells #[Value.int IntKind.i64 1099511627776] 3)).alloc (Obj.cells #[Value.nilFunc] 64)).frozen? ⟨w2.heap.size + 1 + 1, 0, none⟩ = false := fun n => blk_frozen (Bud.three (w2.drewN n) _ _ _).2.2.1 0
          go_wp2_with (first | (go_at_call 43; (with_reducible refine (impl_areCharges.calls k A1 c1 p _ w2 (Kd.C_below HR1.out HB2.out) HC1.out HT2.out).mono ?_); rintro e w' ⟨rfl, ⟨nd1, rfl⟩⟩) | (go_at_call 50; (with_reducible refine (impl_within.calls m 0 60 _ _ HT3.out).mono ?_); rintro e w' ⟨rfl, ⟨nd2, rfl⟩⟩) | (go_at_call 53; fail))
          obtain ⟨W, hW⟩ : ∃ W, W = ((((w2.drewN (nd1 + nd2)).alloc (Obj.cells #[Value.slice none 0 0] 23)).setCell { block := w2.heap.size, off := 0 } (Value.slice none 0 0)).alloc (Obj.cells #[Value.int IntKind.i64 1099511627776] 3)).alloc (Obj.cells #[Bud.choose w.heap.size w2.heap.size] 64) := ⟨_, rfl⟩
          have D0 : W.heap[w2.heap.size]? = some (.cells #[.slice none 0 0] 23 (0, 0)) := by rw [hW]; exact (Bud.three (w2.drewN (nd1 + nd2)) _ _ _).1
          have D1 : W.heap[w2.heap.size + 1]? = some (.cells #[.int .i64 1099511627776] 3 (0, 0)) := by rw [hW]; exact (Bud.three (w2.drewN (nd1 + nd2)) _ _ _).2.1
          have D2 : W.heap[w2.heap.size + 2]? = some (.cells #[Bud.choose w.heap.size w2.heap.size] 64 (0, 0)) := by rw [hW]; exact (Bud.three (w2.drewN (nd1 + nd2)) _ _ _).2.2.1
          have D3 : W.heap.size = w2.heap.size + 3 := by rw [hW]; exact (Bud.three (w2.drewN (nd1 + nd2)) _ _ _).2.2.2.1
          have D4 : Below w2.heap.size w2 W := by
            have h1 : Below (w2.drewN (nd1 + nd2)).heap.size (w2.drewN (nd1 + nd2)) W := by rw [hW]; exact (Bud.three (w2.drewN (nd1 + nd2)) _ _ _).2.2.2.2
            exact below_step (pw_below_drewN (Below.refl _ _) _) h1
          have hs2 := HS2.out
          have E : Bud.Env w W A0 c0 g o u A1 c1 p w.heap.size w2.heap.size := ⟨⟨rfl, hs2, by omega⟩, below_step HB2.out D4, (D4.block _ (by omega)).trans X0.out, (D4.block _ (by omega)).trans X1.out, (D4.block _ (by omega)).trans X2.out, (D4.block _ (by omega)).trans X3.out, D2⟩
          have hW2 : _ = W := hW.symm
          unfold Bud.choose at hW2
          refine calls_world hW2 ?_
          refine (impl_Bud1.walk w g p A0 A1 c0 c1 o u w.heap.size w2.heap.size HR0.out HC0.out HR1.out HC1.out (Bud.small _ _ _ _ _ _ _ HT.out) k k (Nat.le_refl _) [] (.slice none 0 0) m 0 [] 1099511627776 (.slice none 0 0) b1 b2 W E (Kd.R_nil _ _ _ _ _) D0 D1 (Kd.R_nil _ _ _ _ _) HC.out).mono ?_
          rintro e w7 ⟨rfl, vb', h0, h1, hR, hF, hB⟩
          obtain ⟨A7, c7, rfl⟩ := Kd.R_slice hR
          have hk9 := (blk_cell h0 0).trans (show _ = some (.slice A7 b1.length c7 : Value) from rfl)
          have HR7 := Aside0.mk hR
          have HB7 := Aside0.mk hB
          clear h0 h1 hR hF hB
          go_wp2_with fail
          go_ret2
          exact ⟨_, rfl, Kd.R_mono HR7.out (fun _ _ => trivial), HB7.out⟩
    · rw [if_neg c2] at h
      have c2b : decide ((p.length : Int) = (g.length : Int)) = false := decide_eq_false c2
      have c2c : ((p.length : Int) == (g.length : Int)) = false := beq_eq_false_iff_ne.2 c2
      have c2d : ((p.length : Int) != (g.length : Int)) = true := by simp [c2]
      simp only [Option.some.injEq, Prod.mk.injEq] at h
      obtain ⟨rfl, rfl⟩ := h
      go_wp2_with fail
      go_ret2
      exact ⟨_, rfl, Kd.R_nil _ _ _ _ _, HB2.out⟩
theorem impl_BudgetOrders.calls (k : Nat) (A0 : Option Addr) (c0 : Nat) (l0 : List (List Int)) (a1 : Int) (a2 : Int) (A3 : Option Addr) (c3 : Nat) (l3 : List Int) (a4 : Int) (r1 : List Int) (r2 : Bool) (w : World) (hr0 : Kd.C (Kd.slice 3 (Kd.int .i64)) w A0 l0.length l0) (hc0 : l0.length ≤ c0) (hr3 : Kd.C (Kd.int .i64) w A3 l3.length l3) (hc3 : l3.length ≤ c3) (h : impl_BudgetOrders.f k l0 a1 a2 l3 a4 = some (r1, r2)) :
    Calls Try.prog 25 #[.slice A0 l0.length c0, .int .i64 a1, .int .i64 a2, .slice A3 l3.length c3, .int .i64 a4] w fun e w' => ∃ v0_ : Value, e = .returned (.tuple #[v0_, .bool r2]) ∧ Kd.R (Kd.int .i64) 3 w' w.heap.size (fun _ => True) v0_ r1 ∧ Below w.heap.size w w' := by
  exact impl_BudgetOrders.walk k A0 c0 l0 a1 a2 A3 c3 l3 a4 r1 r2 w hr0 hc0 hr3 hc3 h
end Go.Proofs.Ytnojmhcmngejnaa.PFnExactBudgetOrders
