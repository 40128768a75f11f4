/- The recursive closure of impl.BudgetOrders answers as impl_BudgetOrders.c does, within the rounds; it writes its two captured variables best and least alone. Conditions: the captured variables lie as Bud.Env says. -/
import Derived.Test.YtnojmhcmngejnaaQFnExactBudgetOrdersx4
import Derived.Deep.RegionLaw
import Derived.Deep.AppendSrc
import Derived.Test.YtnojmhcmngejnaaHold
namespace Go.Proofs.Ytnojmhcmngejnaa.PFnExactBudgetOrders
open Go.RowKit Go.Proofs.YtnojmhcmngejnaaW.PrintWords Go.Proofs.YtnojmhcmngejnaaW.PrintLast Go.Proofs.YtnojmhcmngejnaaW.PrintMore Go.Proofs.Ytnojmhcmngejnaa.Hold
set_option linter.unusedVariables false
set_option linter.unusedSimpArgs false
/-- append onto a row that has no room left: a new row; the elder one stands. -/
theorem Bud.append_full {P : Program} {ops : Array Oper} {o : Oper} {a : Act} {Q : Exit → Act → World → Prop} {Kc : Act → World → Prop} {w : World} {A : Option Addr} {xs : List Int} {g : Nat} {q : Int}
    (hw : Region.wanted o (yielded ops a.tmps) = true) (s x : Operand) (t e : TypeId) (i : TypeInfo) (ho : o.op = .call { callee := .builtin .append, args := #[s, x], argTypes := #[t, t] })
    (ht : P.underlying t = some (.slice e)) (hi : P.info? e = some i) (hz : i.zero = some (.int .i64 0)) (hs1 : i.size = 1) (hb8 : i.bytes = 8)
    (hs : a.eval s = .slice A xs.length xs.length) (hx : a.eval x = .slice (some ⟨g, 0, none⟩) 1 1) (hC : (Kd.int .i64).C w A xs.length xs) (hg : w.heap[g]? = some (.cells #[.int .i64 q] e (0, 0)))
    (hl : (xs.length + 1) * 8 ≤ 140737488355328)
    (h : ∀ v1 w1, (Kd.int .i64).R e w1 w.heap.size (fun _ => True) v1 (xs ++ [q]) → Below w.heap.size w w1 → Kc (a.put o.dst v1) w1) :
    if Region.wanted o (yielded ops a.tmps) = true then Oper.wp P o a w Kc Q else Kc (a.put o.dst undef) w := by
  have hR := Kd.reads_of_C (d := (0 : Int)) (h1 := fun _ => rfl) hC
  have hold : (Builtin.firstCells i.size xs.length (.slice A xs.length xs.length)).run P w.drew = .ok (encs (Value.int .i64) xs).toArray w.drew := by
    cases A with
    | none =>
      have hn : xs.length = 0 := by
        rcases Nat.eq_zero_or_pos xs.length with z | z
        · exact z
        · obtain ⟨ad, e, _⟩ := hR.2.2 z; cases e
      obtain rfl := List.eq_nil_of_length_eq_zero hn
      exact run_firstCells_none _ _ _ _ _
    | some ad =>
      refine run_firstCells_some _ _ _ ad _ _ _ (by rw [hs1, encs_length]; omega) (fun j v hj => ?_)
      have hjl : j < xs.length := by
        have := (List.getElem?_eq_some_iff.1 hj).1
        rwa [encs_length] at this
      obtain ⟨ad', e, hc⟩ := hR.2.2 (by omega)
      cases e
      have h2 := hc j hjl
      have h3 : v = .int .i64 (xs.getD j 0) := by
        simp [encs, hjl] at hj
        rw [← hj]; simp [List.getD_eq_getElem?_getD, hjl]
      rw [h3]
      simpa using h2
  have hsrc : Src P i.size t (.slice (some ⟨g, 0, none⟩) 1 1) 1 [.int .i64 q] w := Src.ofSlice w ht ⟨g, 0, none⟩ 1 1 [.int .i64 q] (by rw [hs1]; rfl) (by simpa using World.news_of_block (cs := #[.int .i64 q]) hg) (by simp [Value.oneCell'])
  have hrun := run_append_grow_src (P := P) w t t o.type e i (.int .i64 0) ht hi hz A xs.length xs.length (encs (Value.int .i64) xs) hold (.slice (some ⟨g, 0, none⟩) 1 1) 1 [.int .i64 q] hsrc (by omega) (by omega)
    (by rw [hb8]; exact growslice_fits (by omega) hl)
  rw [if_pos hw]
  unfold Oper.wp execOp
  simp only [ho, resolve, invoke, builtin, Sem.run_bind, Sem.run_pure, Result.andThen_ok, List.map_toArray, List.map_cons, List.map_nil, hs, hx, hrun]
  have hln : (xs ++ [q]).length = xs.length + 1 := by simp
  obtain ⟨cap, hcap⟩ : ∃ c, c = grownCap w (xs.length + 1) xs.length e := ⟨_, rfl⟩
  have hge := grownCap_ge w (xs.length + 1) xs.length e
  have hmx := grownCap_le_maxLen w (xs.length + 1) xs.length e (by unfold maxLen; omega)
  rw [← hcap] at hge hmx ⊢
  have hown : (w.drew.alloc (.cells ((encs (Value.int .i64) xs ++ [Value.int .i64 q]).toArray ++ Builtin.zeroCells (Value.int IntKind.i64 0).cells (cap - (xs.length + 1))) e)).ownsRow w.heap.size e 1 (.slice (some ⟨w.heap.size, 0, none⟩) (xs ++ [q]).length cap) (xs ++ [q]).length (encs (Value.int .i64) (xs ++ [q])) := by
    refine ⟨by rw [encs_length, Nat.mul_one], .inr ⟨w.heap.size, cap, _, rfl, Nat.le_refl _, heap_alloc_new w.drew _, by rw [hln]; exact hge, hmx, ?_, ?_⟩⟩
    · simp [size_zeroCells, encs, Value.cells]
      omega
    · have e1 : ((encs (Value.int .i64) xs ++ [Value.int .i64 q]).toArray ++ Builtin.zeroCells (Value.int IntKind.i64 0).cells (cap - (xs.length + 1))).toList = (encs (Value.int .i64) xs ++ [Value.int .i64 q]) ++ (Builtin.zeroCells (Value.int IntKind.i64 0).cells (cap - (xs.length + 1))).toList := by simp
      have e2 : (xs ++ [q]).length * 1 = (encs (Value.int .i64) xs ++ [Value.int .i64 q]).length := by simp [encs]
      rw [e1, e2, List.take_left]
      simp [encs]
  have hRn := Kd.R_of_own (h1 := fun _ => rfl) (ok := fun _ => True) hown (fun _ _ => trivial)
  rw [hln] at hRn
  exact h _ _ hRn (below_alloc (below_drew1 (Below.refl _ _)) _)
theorem Bud.small : ∀ (k : Nat) (x0 : List (List Int)) (x1 x2 : Int) (x9 : List (List Int)) (x10 x11 : Int), impl_areGoods.l0 k x0 x1 x2 x9 x10 x11 = some true → (x0.length : Int) ≤ 3 := by
  intro k
  induction k with
  | zero => intro x0 x1 x2 x9 x10 x11 h; simp [impl_areGoods.l0] at h
  | succ k ih =>
    intro x0 x1 x2 x9 x10 x11 h
    simp only [impl_areGoods.l0] at h
    by_cases c1 : x11 < x10
    · rw [if_pos c1] at h
      by_cases c2 : 0 ≤ x11
      · rw [if_pos c2] at h
        by_cases c3 : x11 < (x9.length : Int)
        · rw [if_pos c3] at h
          obtain ⟨t, _, h⟩ := Option.bind_eq_some_iff.mp h
          by_cases c4 : t = true
          · rw [if_pos c4] at h
            obtain ⟨t1, _, h⟩ := Option.bind_eq_some_iff.mp h
            by_cases c5 : 0 < (x0.length : Int)
            · rw [if_pos c5] at h
              obtain ⟨t2, _, h⟩ := Option.bind_eq_some_iff.mp h
              by_cases c6 : t1 = t2
              · rw [if_pos c6] at h; exact ih _ _ _ _ _ _ h
              · rw [if_neg c6] at h; exact absurd h (by simp)
            · rw [if_neg c5] at h; exact absurd h (by simp)
          · rw [if_neg c4] at h; exact absurd h (by simp)
        · rw [if_neg c3] at h; exact absurd h (by simp)
      · rw [if_neg c2] at h; exact absurd h (by simp)
    · rw [if_neg c1] at h
      obtain ⟨t, ht, h⟩ := Option.bind_eq_some_iff.mp h
      by_cases c2 : t = true
      · subst c2
        unfold impl_within.f at ht
        by_cases c3 : (x0.length : Int) ≥ 1
        · rw [if_pos c3] at ht; simpa using ht
        · rw [if_neg c3] at ht; exact absurd ht (by simp)
      · rw [if_neg c2] at h; exact absurd h (by simp)
/-- A call of a function value with captured variables, as a step of a region. -/
theorem Bud.goesF {P : Program} {ops : Array Oper} {Q : Exit → Act → World → Prop} {oi : Oper} {N : Option Tmp} {a : Act} {w : World} {K : Act → World → Prop} {f : FuncId} {fn : Func} {x : Operand} {as_ : Array Operand} {ts : Array TypeId} (hf : P.funcs[f]? = some fn) (hname : (fn.name == "runtime.NumGoroutine") = false) (hb : fn.body.isSome = true) (args cap : Array Value) (hx : a.eval x = .func (.func f) #[] cap)
    (hw : Region.wanted oi (yielded ops a.tmps) = true) (hN : oi.dst = N) (hop : oi.op = .call { callee := .value x, args := as_, argTypes := ts }) (hargs : as_.map a.eval ++ cap = args)
    (h : Calls P f args w fun e w' => ∃ v, e = .returned v ∧ K (a.put N v) w') : if Region.wanted oi (yielded ops a.tmps) = true then Oper.wp P oi a w K Q else K (a.put N undef) w := by
  refine call_ f args hw hN ?_ h
  have he := enters_ hf hname hb args w
  unfold execOp
  simp [hop, resolve, Deferred.ofValue, invoke, hx, hargs, he]
def Bud.choose (H G : Nat) : Value := .func (.func 53) #[] #[.pointer (some ⟨H, 0, none⟩), .pointer (some ⟨G + 1, 0, none⟩), .pointer (some ⟨G, 0, none⟩), .pointer (some ⟨H + 3, 0, none⟩), .pointer (some ⟨G + 2, 0, none⟩), .pointer (some ⟨H + 1, 0, none⟩), .pointer (some ⟨H + 2, 0, none⟩)]
/-- What the closure's names stand for: H the heap's size at the call of impl.BudgetOrders, G where best, least and choose lie. -/
def Bud.Env (w0 w : World) (Ag : Option Addr) (cg : Nat) (g : List (List Int)) (o u : Int) (Ap : Option Addr) (cp : Nat) (p : List Int) (H G : Nat) : Prop :=
  (w0.heap.size = H ∧ H + 4 ≤ G ∧ G + 3 ≤ w.heap.size) ∧ Below w0.heap.size w0 w ∧
  w.heap[H]? = some (.cells #[.slice Ag g.length cg] 33 (0, 0)) ∧ w.heap[H + 1]? = some (.cells #[.int .i64 o] 3 (0, 0)) ∧ w.heap[H + 2]? = some (.cells #[.int .i64 u] 3 (0, 0)) ∧
  w.heap[H + 3]? = some (.cells #[.slice Ap p.length cp] 23 (0, 0)) ∧ w.heap[G + 2]? = some (.cells #[Bud.choose H G] 64 (0, 0))
theorem Bud.Env.fr {w0 w w' : World} {Ag : Option Addr} {cg : Nat} {g : List (List Int)} {o u : Int} {Ap : Option Addr} {cp : Nat} {p : List Int} {H G : Nat} (h : Bud.Env w0 w Ag cg g o u Ap cp p H G) (f : Fr w w' G (G + 2)) (hb : Below w0.heap.size w0 w') : Bud.Env w0 w' Ag cg g o u Ap cp p H G := by
  obtain ⟨⟨h1, h2, h3⟩, h4, h5, h6, h7, h8, h9⟩ := h
  exact ⟨⟨h1, h2, Nat.le_trans h3 f.1⟩, hb, Fr.blk h5 f (by omega), Fr.blk h6 f (by omega), Fr.blk h7 f (by omega), Fr.blk h8 f (by omega), Fr.blk h9 f (by omega)⟩
theorem Bud.Fr_below {W W' : World} {p q : Nat} (h : Below W.heap.size W W') : Fr W W' p q := ⟨h.size, fun k hk _ => h.block k hk⟩
theorem Bud.Fr_trans {W W1 W2 : World} {p q : Nat} (f : Fr W W1 p q) (k : Fr W1 W2 p q) : Fr W W2 p q := ⟨Nat.le_trans f.1 k.1, fun b hb hd => (k.2 b (Nat.lt_of_lt_of_le hb f.1) hd).trans (f.2 b hb hd)⟩
theorem Bud.Fr_set {W W' : World} {p q g : Nat} (f : Fr W W' p q) (hg : p ≤ g ∧ g < q) (i : Nat) (v : Value) : Fr W (W'.setCell ⟨g, i, none⟩ v) p q :=
  ⟨by simpa [World.setCell] using f.1, fun k hk hd => (Below.heap_setCell W' ⟨g, i, none⟩ v k (by show k ≠ g; omega)).trans (f.2 k hk hd)⟩
def Bud.okk (G k : Nat) : Prop := k < G ∨ G + 2 ≤ k
theorem Bud.R_fr {W W' : World} {G H : Nat} {v : Value} {xs : List Int} (h : (Kd.int .i64).R 3 W H (Bud.okk G) v xs) (f : Fr W W' G (G + 2)) : (Kd.int .i64).R 3 W' H (Bud.okk G) v xs := Kd.R_step h (fun k hk hlt => f.2 k hlt hk)
theorem Bud.R_new {W W' : World} {G H : Nat} {v : Value} {xs : List Int} (h : (Kd.int .i64).R 3 W' W.heap.size (fun _ => True) v xs) (hH : H ≤ W.heap.size) (hG : G + 2 ≤ W.heap.size) : (Kd.int .i64).R 3 W' H (Bud.okk G) v xs :=
  Kd.R_lower (Kd.R_mono (Kd.R_bound h) (fun k hk => Or.inr (Nat.le_trans hG hk.2.1))) hH
def impl_Bud1.T8 : Bool × List (List Nat × List Nat) := (true, [([], []), ([], []), ([], []), ([], []), ([1, 2, 3], [1, 2, 3]), ([], []), ([5], [5]), ([4, 6], [4, 6]), ([], []), ([], []), ([], []), ([], []), ([10, 11], [10, 11]), ([12], [12]), ([9, 13], [9, 13]), ([8, 14], [8, 14]), ([], []), ([], []), ([], []), ([17, 18], [17, 18]), ([19], [19]), ([], []), ([], []), ([], []), ([20, 21, 22, 23, 7], [20, 21, 22, 23]), ([16, 24], [16, 24]), ([0, 7, 15, 25, 24], [0, 7, 15, 25])])
def impl_Bud1.B8 : List Nat := [0, 0, 0, 0, 14, 0, 32, 126, 0, 0, 0, 0, 3072, 7168, 15872, 32512, 0, 0, 0, 393216, 917504, 0, 0, 0, 16646398, 33489150, 67108863]
theorem impl_Bud1.tab8 : rtab .any (opsOf Try.f53 8) = impl_Bud1.T8 := by kernel_rfl
theorem impl_Bud1.bits8 : waitsOk impl_Bud1.T8.2 impl_Bud1.B8 = true := by kernel_rfl
set_option maxHeartbeats 2000000 in
set_option maxRecDepth 100000 in
theorem impl_Bud1.walk (w0 : World) (g : List (List Int)) (p : List Int) (Ag Ap : Option Addr) (cg cp : Nat) (o u : Int) (H G : Nat) (hrg : Kd.C (Kd.slice 3 (Kd.int .i64)) w0 Ag g.length g) (hcg : g.length ≤ cg) (hrp : Kd.C (Kd.int .i64) w0 Ap p.length p) (hcp : p.length ≤ cp) (hg8 : (g.length : Int) ≤ 3) (n : Nat) :
    ∀ (k : Nat) (_ : k ≤ n) (s : List Int) (vs : Value) (left cost : Int) (bo : List Int) (least : Int) (vb : Value) (bo' : List Int) (least' : Int) (w : World)
    (hE : Bud.Env w0 w Ag cg g o u Ap cp p H G) (hs : Kd.R (Kd.int .i64) 3 w H (Bud.okk G) vs s) (hw0 : w.heap[G]? = some (.cells #[vb] 23 (0, 0))) (hw1 : w.heap[G + 1]? = some (.cells #[.int .i64 least] 3 (0, 0))) (hb : Kd.R (Kd.int .i64) 3 w H (Bud.okk G) vb bo)
    (h : impl_BudgetOrders.c k g o u p s left cost bo least = some (bo', least')),
    Calls Try.prog 53 #[vs, .int .i64 left, .int .i64 cost, .pointer (some ⟨H, 0, none⟩), .pointer (some ⟨G + 1, 0, none⟩), .pointer (some ⟨G, 0, none⟩), .pointer (some ⟨H + 3, 0, none⟩), .pointer (some ⟨G + 2, 0, none⟩), .pointer (some ⟨H + 1, 0, none⟩), .pointer (some ⟨H + 2, 0, none⟩)] w
      fun e w' => e = .returned (.tuple #[]) ∧ ∃ v : Value, w'.heap[G]? = some (.cells #[v] 23 (0, 0)) ∧ w'.heap[G + 1]? = some (.cells #[.int .i64 least'] 3 (0, 0)) ∧ Kd.R (Kd.int .i64) 3 w' H (Bud.okk G) v bo' ∧ Fr w w' G (G + 2) ∧ Below w0.heap.size w0 w' := by
  induction n with
  | zero => intro k hk s vs left cost bo least vb bo' least' w hE hs hw0 hw1 hb h; obtain rfl : k = 0 := by omega
            simp [impl_BudgetOrders.c] at h
  | succ n IH =>
    intro k hk s vs left cost bo least vb bo' least' w hE hs hw0 hw1 hb h
    cases k with
    | zero => simp [impl_BudgetOrders.c] at h
    | succ k =>
    have HRG := Aside0.mk hrg
    have HRP := Aside0.mk hrp
    have HS := Aside0.mk hs
    have HV := Aside0.mk hb
    have HKN := Aside0.mk hk
    have HCG := Aside0.mk hcg
    have HCP := Aside0.mk hcp
    have HIH := Aside0.mk IH
    have HE := Aside0.mk hE
    have W0 := Aside0.mk hw0
    have W1 := Aside0.mk hw1
    obtain ⟨⟨e1, e2, e3⟩, e4, e5, e6, e7, e8, e9⟩ := hE
    have hk0 : w.cell? ⟨H, 0, none⟩ = some (.slice Ag g.length cg) := (blk_cell e5 0).trans rfl
    have hk1 : w.cell? ⟨H + 1, 0, none⟩ = some (.int .i64 o) := (blk_cell e6 0).trans rfl
    have hk2 : w.cell? ⟨H + 2, 0, none⟩ = some (.int .i64 u) := (blk_cell e7 0).trans rfl
    have hk3 : w.cell? ⟨H + 3, 0, none⟩ = some (.slice Ap p.length cp) := (blk_cell e8 0).trans rfl
    have hk4 : w.cell? ⟨G + 2, 0, none⟩ = some (Bud.choose H G) := (blk_cell e9 0).trans rfl
    have hk6 : w.cell? ⟨G + 1, 0, none⟩ = some (.int .i64 least) := (blk_cell hw1 0).trans rfl
    have EN := Aside0.mk (And.intro e1 (And.intro e2 e3))
    have EB := Aside0.mk e4
    clear hk hcg hcp IH e1 e2 e3 e4 e5 e6 e7 e8 e9 hw0 hw1
    obtain ⟨As, cs, rfl⟩ := Kd.R_slice hs
    clear hrg hrp hs hb
    simp only [impl_BudgetOrders.c] at h
    by_cases c1 : (s.length : Int) = (g.length : Int)
    · rw [if_pos c1] at h
      have c1b : decide ((s.length : Int) = (g.length : Int)) = true := decide_eq_true c1
      have c1c : ((s.length : Int) == (g.length : Int)) = true := beq_iff_eq.2 c1
      have sl3 : s.length ≤ 3 := by omega
      clear c1
      by_cases c2 : cost < least
      · rw [if_pos c2] at h
        have c2b : decide (cost < least) = true := decide_eq_true c2
        clear c2
        simp only [Option.some.injEq, Prod.mk.injEq] at h
        obtain ⟨rfl, rfl⟩ := h
        have HCPD := Aside0.mk (show impl_copied.f s = some ([] ++ s) from by unfold impl_copied.f; simp only [Option.bind_some, List.length_nil, List.nil_append]; rw [if_pos (by omega)])
        go_enter Try.func53, Try.ntmps53
        go_wp2_with (go_at_call 54; (with_reducible refine (impl_copied.calls As cs s ([] ++ s) w (Kd.R_reads' HS.out).2.2 (Kd.R_reads' HS.out).2.1 HCPD.out).mono ?_); rintro e w3 ⟨v3, rfl, ho3, hb3⟩; obtain ⟨A3, c3, rfl⟩ := Kd.R_slice ho3; have hz0 := (hb3.block G (by have := EN.out; omega)).trans W0.out; have hz1 := (hb3.block (G + 1) (by have := EN.out; omega)).trans W1.out; have hq0 := (blk_cell hz0 0).trans (show _ = some vb from rfl); have hq1 := (blk_cell hz1 0).trans (show _ = some (.int .i64 least) from rfl); have hf0 := blk_frozen hz0 0; have hf1 := blk_frozen hz1 0; have Z0 := Aside0.mk hz0; have Z1 := Aside0.mk hz1; have HO3 := Aside0.mk ho3; have HB3 := Aside0.mk hb3; clear hz0 hz1 ho3 hb3)
        refine bodyPost_ret (results_list (rs := []) rfl (by simp) .nil) rfl ?_
        have hEN := EN.out
        have F3 := Aside0.mk (Bud.Fr_below (p := G) (q := G + 2) HB3.out)
        have F4 := Aside0.mk (Bud.Fr_set (Bud.Fr_set F3.out (g := G) (by omega) 0 (.slice A3 s.length c3)) (g := G + 1) (by omega) 0 (.int .i64 cost))
        have F5 := Aside0.mk (Bud.Fr_set (Bud.Fr_set (⟨Nat.le_refl _, fun _ _ _ => rfl⟩ : Fr w3 w3 G (G + 2)) (g := G) (by omega) 0 (.slice A3 s.length c3)) (g := G + 1) (by omega) 0 (.int .i64 cost))
        exact ⟨rfl, _, blk_far (blk_put Z0.out 0 _ rfl) (by simp) _, blk_put (blk_far Z1.out (by simp) _) 0 _ rfl, Bud.R_fr (Bud.R_new HO3.out (by omega) (by omega)) F5.out, F4.out, below_set (below_set (below_step EB.out HB3.out) (by omega)) (by omega)⟩
      · rw [if_neg c2] at h
        have c2b : decide (cost < least) = false := decide_eq_false c2
        clear c2
        simp only [Option.some.injEq, Prod.mk.injEq] at h
        obtain ⟨rfl, rfl⟩ := h
        go_enter Try.func53, Try.ntmps53
        go_wp2_with fail
        refine bodyPost_ret (results_list (rs := []) rfl (by simp) .nil) rfl ?_
        exact ⟨rfl, vb, W0.out, W1.out, HV.out, ⟨Nat.le_refl _, fun _ _ _ => rfl⟩, EB.out⟩
    · rw [if_neg c1] at h
      have c1b : decide ((s.length : Int) = (g.length : Int)) = false := decide_eq_false c1
      have c1c : ((s.length : Int) == (g.length : Int)) = false := beq_eq_false_iff_ne.2 c1
      go_enter Try.func53, Try.ntmps53
      go_wp2_with fail
      have HL := Aside0.mk h
      clear h
      go_loopg [27] k (fun kq v27 W => ∃ (q : Int) (kk : Nat) (b1 : List Int) (l1 : Int) (vb1 : Value), v27 = .int .i64 q ∧ Aside0 (kk ≤ kq ∧ 0 ≤ q ∧ kk ≤ k) ∧ Aside0 (impl_BudgetOrders.q kk g o u p s left cost b1 l1 q = some (bo', least')) ∧ Aside0 (Bud.Env w0 W Ag cg g o u Ap cp p H G) ∧ Aside0 (W.heap[G]? = some (.cells #[vb1] 23 (0, 0))) ∧ Aside0 (W.heap[G + 1]? = some (.cells #[.int .i64 l1] 3 (0, 0))) ∧ Aside0 (Kd.R (Kd.int .i64) 3 W H (Bud.okk G) vb1 b1) ∧ Aside0 (Kd.R (Kd.int .i64) 3 W H (Bud.okk G) (.slice As s.length cs) s) ∧ Aside0 (Fr w W G (G + 2)))
      case atStart => exact ⟨0, k, bo, least, vb, rfl, ⟨Nat.le_refl _, by omega, Nat.le_refl _⟩, HL, HE, W0, W1, HV, HS, ⟨⟨Nat.le_refl _, fun _ _ _ => rfl⟩⟩⟩
      case round =>
        clear W0 W1 HE HV HS HL hk0 hk1 hk2 hk3 hk4 hk6 EB EN
        obtain ⟨q, kk, b1, l1, vb1, rfl, HK, HL, HE, W0, W1, HV, HS, FW⟩ := hrel
        have hl := HL.out
        cases kk with
        | zero => simp [impl_BudgetOrders.q] at hl
        | succ kk =>
        simp only [impl_BudgetOrders.q] at hl
        clear HL
        obtain ⟨⟨e1, e2, e3⟩, e4, e5, e6, e7, e8, e9⟩ := HE.out
        have hk0 : wr.cell? ⟨H, 0, none⟩ = some (.slice Ag g.length cg) := (blk_cell e5 0).trans rfl
        have hk1 : wr.cell? ⟨H + 1, 0, none⟩ = some (.int .i64 o) := (blk_cell e6 0).trans rfl
        have hk2 : wr.cell? ⟨H + 2, 0, none⟩ = some (.int .i64 u) := (blk_cell e7 0).trans rfl
        have hk3 : wr.cell? ⟨H + 3, 0, none⟩ = some (.slice Ap p.length cp) := (blk_cell e8 0).trans rfl
        have hk4 : wr.cell? ⟨G + 2, 0, none⟩ = some (Bud.choose H G) := (blk_cell e9 0).trans rfl
        have EN := Aside0.mk (And.intro e1 (And.intro e2 e3))
        have KB := Aside0.mk e4
        clear e1 e2 e3 e4 e5 e6 e7 e8 e9
        by_cases c2 : q < 16
        · rw [if_pos c2] at hl
          have c2b : decide (q < 16) = true := decide_eq_true c2
          by_cases c3 : (s.length : Int) < (p.length : Int)
          · rw [if_pos c3] at hl
            obtain ⟨ad, e, hx⟩ := Kd.at_int (Kd.C_below HRP.out KB.out) (s.length : Int) (by omega) c3
            cases e
            rw [Int.toNat_natCast] at hx
            have c3b : ((s.length : Int) < (p.length : Int)) = True := eq_true c3
            have c3c : (0 ≤ (s.length : Int)) = True := eq_true (by omega)
            by_cases c4 : wrap64 (q * rd p (s.length : Int)) ≤ left
            · rw [if_pos c4] at hl
              have c4b : decide (wrap64 (q * rd p (s.length : Int)) ≤ left) = true := decide_eq_true c4
              have c5 : (s.length : Int) < (g.length : Int) := by
                by_cases z : (s.length : Int) < (g.length : Int)
                · exact z
                · rw [if_neg z] at hl; exact absurd hl (by simp)
              rw [if_pos c5] at hl
              obtain ⟨adg, Ag0, cg0, eg, hxg, hlg, hig⟩ := at_L1 (Kd.C_below HRG.out KB.out) (s.length : Int) (by omega) c5
              cases eg
              rw [Int.toNat_natCast] at hxg
              have c5b : ((s.length : Int) < (g.length : Int)) = True := eq_true c5
              have HGR := Aside0.mk hig
              have HGC := Aside0.mk hlg
              clear hig hlg
              obtain ⟨t, ht, hl⟩ := Option.bind_eq_some_iff.mp hl
              obtain ⟨⟨b2, l2⟩, hf, hl⟩ := Option.bind_eq_some_iff.mp hl
              have HT := Aside0.mk ht
              have HF := Aside0.mk hf
              have HLN := Aside0.mk hl
              have HSC := Aside0.mk (Kd.R_reads' HS.out)
              have hsc : (s.length : Int) ≤ (cs : Int) := by have := HSC.out.2.1; omega
              clear ht hf hl
              go_wp2_with fail
              refine start_ (n := 27) (S := fun w' => w'.cell? ⟨G + 2, 0, none⟩ = some (Bud.choose H G) ∧ w'.cell? ⟨H + 3, 0, none⟩ = some (.slice (some ad) p.length cp) ∧ w'.cell? (ad.add s.length) = some (.int .i64 (rd p (s.length : Int))) ∧ w'.cell? ⟨H, 0, none⟩ = some (.slice (some adg) g.length cg) ∧ w'.cell? (adg.add s.length) = some (.slice Ag0 (rd_L1 g (s.length : Int)).length cg0) ∧ w'.cell? ⟨H + 1, 0, none⟩ = some (.int .i64 o) ∧ w'.cell? ⟨H + 2, 0, none⟩ = some (.int .i64 u)) (ds := [26]) #[false, false, false, false, false, false, false, false, false, false, false, false, false, false, false, false, false, false, false, false, false, false, false, false, false, false, false] (by kernel_rfl) rfl rfl ⟨hk4, hk3, hx, hk0, hxg, hk1, hk2⟩ (fun hHeld => ?_); refine with_tabW impl_Bud1.tab8 impl_Bud1.bits8 (fun HT_ HW_ => ?_)
              refine take_ (i := 0) (N := some 38) (v := ?_) (a' := ?_) #[true, false, false, false, false, false, false, false, false, false, false, false, false, false, false, false, false, false, false, false, false, false, false, false, false, false, false] rfl rfl (take_ofW HT_.out HW_.out (by kernel_rfl)) (fun _ _ _ h => h) (Or.inl ⟨by rfl, ?_⟩) hHeld ?_ ?_
              rotate_left
              · rintro w' ⟨s0, s1, s2, s3, s4, s5, s6⟩
                go_simp
                with_reducible rfl
              rotate_left
              · simp only [Act.put, List.setIfInBounds_toArray, List.set_cons_zero, List.set_cons_succ, i64_w, i32_w]
                rfl
              refine pure_ (i := 1) (N := some 39) (v := ?_) (a' := ?_) #[true, true, false, false, false, false, false, false, false, false, false, false, false, false, false, false, false, false, false, false, false, false, false, false, false, false, false] rfl rfl (any_of HT_.out (by kernel_rfl)) (fun _ _ _ h => h) (Or.inl ⟨by rfl, ?_⟩) ?_ ?_
              rotate_left
              · intro w'
                go_simp
                with_reducible rfl
              rotate_left
              · simp only [Act.put, List.setIfInBounds_toArray, List.set_cons_zero, List.set_cons_succ, i64_w, i32_w]
                rfl
              refine pure_ (i := 2) (N := some 40) (v := ?_) (a' := ?_) #[true, true, true, false, false, false, false, false, false, false, false, false, false, false, false, false, false, false, false, false, false, false, false, false, false, false, false] rfl rfl (any_of HT_.out (by kernel_rfl)) (fun _ _ _ h => h) (Or.inl ⟨by rfl, ?_⟩) ?_ ?_
              rotate_left
              · intro w'
                go_simp
                with_reducible rfl
              rotate_left
              · simp only [Act.put, List.setIfInBounds_toArray, List.set_cons_zero, List.set_cons_succ, i64_w, i32_w]
                rfl
              refine pure_ (i := 3) (N := some 41) (v := ?_) (a' := ?_) #[true, true, true, true, false, false, false, false, false, false, false, false, false, false, false, false, false, false, false, false, false, false, false, false, false, false, false] rfl rfl (any_of HT_.out (by kernel_rfl)) (fun _ _ _ h => h) (Or.inl ⟨by rfl, ?_⟩) ?_ ?_
              rotate_left
              · intro w'
                go_simp
                with_reducible rfl
              rotate_left
              · simp only [Act.put, List.setIfInBounds_toArray, List.set_cons_zero, List.set_cons_succ, i64_w, i32_w]
                rfl
              refine pure_ (i := 4) (N := some 42) (v := ?_) (a' := ?_) #[true, true, true, true, true, false, false, false, false, false, false, false, false, false, false, false, false, false, false, false, false, false, false, false, false, false, false] rfl rfl (any_of HT_.out (by kernel_rfl)) (fun _ _ _ h => h) (Or.inl ⟨by rfl, ?_⟩) ?_ ?_
              rotate_left
              · intro w'
                go_simp
                with_reducible rfl
              rotate_left
              · simp only [Act.put, List.setIfInBounds_toArray, List.set_cons_zero, List.set_cons_succ, i64_w, i32_w]
                rfl
              refine pure_ (i := 5) (N := some 43) (v := ?_) (a' := ?_) #[true, true, true, true, true, true, false, false, false, false, false, false, false, false, false, false, false, false, false, false, false, false, false, false, false, false, false] rfl rfl (any_of HT_.out (by kernel_rfl)) (fun _ _ _ h => h) (Or.inl ⟨by rfl, ?_⟩) ?_ ?_
              rotate_left
              · intro w'
                go_simp
                with_reducible rfl
              rotate_left
              · simp only [Act.put, List.setIfInBounds_toArray, List.set_cons_zero, List.set_cons_succ, i64_w, i32_w]
                rfl
              refine pure_ (i := 8) (N := some 46) (v := ?_) (a' := ?_) #[true, true, true, true, true, true, false, false, true, false, false, false, false, false, false, false, false, false, false, false, false, false, false, false, false, false, false] rfl rfl (any_of HT_.out (by kernel_rfl)) (fun _ _ _ h => h) (Or.inl ⟨by rfl, ?_⟩) ?_ ?_
              rotate_left
              · intro w'
                go_simp
                with_reducible rfl
              rotate_left
              · simp only [Act.put, List.setIfInBounds_toArray, List.set_cons_zero, List.set_cons_succ, i64_w, i32_w]
                rfl
              refine pure_ (i := 9) (N := some 47) (v := ?_) (a' := ?_) #[true, true, true, true, true, true, false, false, true, true, false, false, false, false, false, false, false, false, false, false, false, false, false, false, false, false, false] rfl rfl (any_of HT_.out (by kernel_rfl)) (fun _ _ _ h => h) (Or.inl ⟨by rfl, ?_⟩) ?_ ?_
              rotate_left
              · intro w'
                go_simp
                with_reducible rfl
              rotate_left
              · simp only [Act.put, List.setIfInBounds_toArray, List.set_cons_zero, List.set_cons_succ, i64_w, i32_w]
                rfl
              refine take_ (i := 10) (N := some 48) (v := ?_) (a' := ?_) #[true, true, true, true, true, true, false, false, true, true, true, false, false, false, false, false, false, false, false, false, false, false, false, false, false, false, false] rfl rfl (take_ofW HT_.out HW_.out (by kernel_rfl)) (fun _ _ _ h => h) (Or.inl ⟨by rfl, ?_⟩) hHeld ?_ ?_
              rotate_left
              · rintro w' ⟨s0, s1, s2, s3, s4, s5, s6⟩
                go_simp
                with_reducible rfl
              rotate_left
              · simp only [Act.put, List.setIfInBounds_toArray, List.set_cons_zero, List.set_cons_succ, i64_w, i32_w]
                rfl
              refine pure_ (i := 11) (N := some 49) (v := ?_) (a' := ?_) #[true, true, true, true, true, true, false, false, true, true, true, true, false, false, false, false, false, false, false, false, false, false, false, false, false, false, false] rfl rfl (any_of HT_.out (by kernel_rfl)) (fun _ _ _ h => h) (Or.inl ⟨by rfl, ?_⟩) ?_ ?_
              rotate_left
              · intro w'
                go_simp
                with_reducible rfl
              rotate_left
              · simp only [Act.put, List.setIfInBounds_toArray, List.set_cons_zero, List.set_cons_succ, i64_w, i32_w]
                rfl
              refine pure_ (i := 12) (N := some 50) (v := ?_) (a' := ?_) #[true, true, true, true, true, true, false, false, true, true, true, true, true, false, false, false, false, false, false, false, false, false, false, false, false, false, false] rfl rfl (any_of HT_.out (by kernel_rfl)) (fun _ _ _ h => h) (Or.inl ⟨by rfl, ?_⟩) ?_ ?_
              rotate_left
              · intro w'
                go_simp
                with_reducible rfl
              rotate_left
              · simp only [Act.put, List.setIfInBounds_toArray, List.set_cons_zero, List.set_cons_succ, i64_w, i32_w]
                rfl
              refine take_ (i := 13) (N := some 51) (v := ?_) (a' := ?_) #[true, true, true, true, true, true, false, false, true, true, true, true, true, true, false, false, false, false, false, false, false, false, false, false, false, false, false] rfl rfl (take_ofW HT_.out HW_.out (by kernel_rfl)) (fun _ _ _ h => h) (Or.inl ⟨by rfl, ?_⟩) hHeld ?_ ?_
              rotate_left
              · rintro w' ⟨s0, s1, s2, s3, s4, s5, s6⟩
                go_simp
                with_reducible rfl
              rotate_left
              · simp only [Act.put, List.setIfInBounds_toArray, List.set_cons_zero, List.set_cons_succ, i64_w, i32_w]
                rfl
              refine pure_ (i := 14) (N := some 52) (v := ?_) (a' := ?_) #[true, true, true, true, true, true, false, false, true, true, true, true, true, true, true, false, false, false, false, false, false, false, false, false, false, false, false] rfl rfl (any_of HT_.out (by kernel_rfl)) (fun _ _ _ h => h) (Or.inl ⟨by rfl, ?_⟩) ?_ ?_
              rotate_left
              · intro w'
                go_simp
                with_reducible rfl
              rotate_left
              · simp only [Act.put, List.setIfInBounds_toArray, List.set_cons_zero, List.set_cons_succ, i64_w, i32_w]
                rfl
              refine pure_ (i := 15) (N := some 53) (v := ?_) (a' := ?_) #[true, true, true, true, true, true, false, false, true, true, true, true, true, true, true, true, false, false, false, false, false, false, false, false, false, false, false] rfl rfl (any_of HT_.out (by kernel_rfl)) (fun _ _ _ h => h) (Or.inl ⟨by rfl, ?_⟩) ?_ ?_
              rotate_left
              · intro w'
                go_simp
                with_reducible rfl
              rotate_left
              · simp only [Act.put, List.setIfInBounds_toArray, List.set_cons_zero, List.set_cons_succ, i64_w, i32_w]
                rfl
              refine pure_ (i := 16) (N := some 54) (v := ?_) (a' := ?_) #[true, true, true, true, true, true, false, false, true, true, true, true, true, true, true, true, true, false, false, false, false, false, false, false, false, false, false] rfl rfl (any_of HT_.out (by kernel_rfl)) (fun _ _ _ h => h) (Or.inl ⟨by rfl, ?_⟩) ?_ ?_
              rotate_left
              · intro w'
                go_simp
                with_reducible rfl
              rotate_left
              · simp only [Act.put, List.setIfInBounds_toArray, List.set_cons_zero, List.set_cons_succ, i64_w, i32_w]
                rfl
              refine take_ (i := 17) (N := some 55) (v := ?_) (a' := ?_) #[true, true, true, true, true, true, false, false, true, true, true, true, true, true, true, true, true, true, false, false, false, false, false, false, false, false, false] rfl rfl (take_ofW HT_.out HW_.out (by kernel_rfl)) (fun _ _ _ h => h) (Or.inl ⟨by rfl, ?_⟩) hHeld ?_ ?_
              rotate_left
              · rintro w' ⟨s0, s1, s2, s3, s4, s5, s6⟩
                go_simp
                with_reducible rfl
              rotate_left
              · simp only [Act.put, List.setIfInBounds_toArray, List.set_cons_zero, List.set_cons_succ, i64_w, i32_w]
                rfl
              refine pure_ (i := 18) (N := some 56) (v := ?_) (a' := ?_) #[true, true, true, true, true, true, false, false, true, true, true, true, true, true, true, true, true, true, true, false, false, false, false, false, false, false, false] rfl rfl (any_of HT_.out (by kernel_rfl)) (fun _ _ _ h => h) (Or.inl ⟨by rfl, ?_⟩) ?_ ?_
              rotate_left
              · intro w'
                go_simp
                with_reducible rfl
              rotate_left
              · simp only [Act.put, List.setIfInBounds_toArray, List.set_cons_zero, List.set_cons_succ, i64_w, i32_w]
                rfl
              refine pure_ (i := 19) (N := some 57) (v := ?_) (a' := ?_) #[true, true, true, true, true, true, false, false, true, true, true, true, true, true, true, true, true, true, true, true, false, false, false, false, false, false, false] rfl rfl (any_of HT_.out (by kernel_rfl)) (fun _ _ _ h => h) (Or.inl ⟨by rfl, ?_⟩) ?_ ?_
              rotate_left
              · intro w'
                go_simp
                with_reducible rfl
              rotate_left
              · simp only [Act.put, List.setIfInBounds_toArray, List.set_cons_zero, List.set_cons_succ, i64_w, i32_w]
                rfl
              refine take_ (i := 20) (N := some 58) (v := ?_) (a' := ?_) #[true, true, true, true, true, true, false, false, true, true, true, true, true, true, true, true, true, true, true, true, true, false, false, false, false, false, false] rfl rfl (take_ofW HT_.out HW_.out (by kernel_rfl)) (fun _ _ _ h => h) (Or.inl ⟨by rfl, ?_⟩) hHeld ?_ ?_
              rotate_left
              · rintro w' ⟨s0, s1, s2, s3, s4, s5, s6⟩
                go_simp
                with_reducible rfl
              rotate_left
              · simp only [Act.put, List.setIfInBounds_toArray, List.set_cons_zero, List.set_cons_succ, i64_w, i32_w]
                rfl
              refine take_ (i := 21) (N := some 59) (v := ?_) (a' := ?_) #[true, true, true, true, true, true, false, false, true, true, true, true, true, true, true, true, true, true, true, true, true, true, false, false, false, false, false] rfl rfl (take_ofW HT_.out HW_.out (by kernel_rfl)) (fun _ _ _ h => h) (Or.inl ⟨by rfl, ?_⟩) hHeld ?_ ?_
              rotate_left
              · rintro w' ⟨s0, s1, s2, s3, s4, s5, s6⟩
                go_simp
                with_reducible rfl
              rotate_left
              · simp only [Act.put, List.setIfInBounds_toArray, List.set_cons_zero, List.set_cons_succ, i64_w, i32_w]
                rfl
              refine take_ (i := 22) (N := some 60) (v := ?_) (a' := ?_) #[true, true, true, true, true, true, false, false, true, true, true, true, true, true, true, true, true, true, true, true, true, true, true, false, false, false, false] rfl rfl (take_ofW HT_.out HW_.out (by kernel_rfl)) (fun _ _ _ h => h) (Or.inl ⟨by rfl, ?_⟩) hHeld ?_ ?_
              rotate_left
              · rintro w' ⟨s0, s1, s2, s3, s4, s5, s6⟩
                go_simp
                with_reducible rfl
              rotate_left
              · simp only [Act.put, List.setIfInBounds_toArray, List.set_cons_zero, List.set_cons_succ, i64_w, i32_w]
                rfl
              refine pure_ (i := 23) (N := some 61) (v := ?_) (a' := ?_) #[true, true, true, true, true, true, false, false, true, true, true, true, true, true, true, true, true, true, true, true, true, true, true, true, false, false, false] rfl rfl (any_of HT_.out (by kernel_rfl)) (fun _ _ _ h => h) (Or.inl ⟨by rfl, ?_⟩) ?_ ?_
              rotate_left
              · intro w'
                go_simp
                with_reducible rfl
              rotate_left
              · simp only [Act.put, List.setIfInBounds_toArray, List.set_cons_zero, List.set_cons_succ, i64_w, i32_w]
                rfl
              refine one_ (i := 6) (N := some 44) #[true, true, true, true, true, true, true, false, true, true, true, true, true, true, true, true, true, true, true, true, true, true, true, true, false, false, false] rfl rfl (one_of HT_.out (by kernel_rfl)) (by decide) (fun K hK => ?_)
              refine value_ (w1 := ?_) (v := ?_) (by rfl) rfl ?_ ?_
              rotate_left 2
              · go_simp
                constructor
                · rfl
                · rfl
              refine hK.out _ _ ⟨(World.cell?_alloc_lt _ _ _ (World.block_lt_of_cell? _ _ (hHeld.1))).trans (hHeld.1), (World.cell?_alloc_lt _ _ _ (World.block_lt_of_cell? _ _ (hHeld.2.1))).trans (hHeld.2.1), (World.cell?_alloc_lt _ _ _ (World.block_lt_of_cell? _ _ (hHeld.2.2.1))).trans (hHeld.2.2.1), (World.cell?_alloc_lt _ _ _ (World.block_lt_of_cell? _ _ (hHeld.2.2.2.1))).trans (hHeld.2.2.2.1), (World.cell?_alloc_lt _ _ _ (World.block_lt_of_cell? _ _ (hHeld.2.2.2.2.1))).trans (hHeld.2.2.2.2.1), (World.cell?_alloc_lt _ _ _ (World.block_lt_of_cell? _ _ (hHeld.2.2.2.2.2.1))).trans (hHeld.2.2.2.2.2.1), (World.cell?_alloc_lt _ _ _ (World.block_lt_of_cell? _ _ (hHeld.2.2.2.2.2.2))).trans (hHeld.2.2.2.2.2.2)⟩ (fun hHeld => ?_)
              clear hK K
              refine norm_ (a' := ?_) ?_ ?_
              rotate_left
              · show Act.put _ (some 44) _ = _
                simp only [Act.put, List.setIfInBounds_toArray, List.set_cons_zero, List.set_cons_succ, i64_w, i32_w]
                rfl
              show wpAnyLast _ _ _ _ _ _ _ _ _ (wr.drew.alloc (Obj.cells #[.int .i64 q] 3))
              have HB4 := Aside0.mk (below_alloc (Below.refl wr.drew.heap.size wr.drew) (Obj.cells #[.int .i64 q] 3))
              have hg4 : (wr.drew.alloc (Obj.cells #[.int .i64 q] 3)).heap[wr.heap.size]? = some (.cells #[.int .i64 q] 3 (0, 0)) := heap_alloc_new wr.drew _
              have hz4 : (wr.drew.alloc (Obj.cells #[.int .i64 q] 3)).heap.size = wr.heap.size + 1 := by simp
              have hHeld : (wr.drew.alloc (Obj.cells #[.int .i64 q] 3)).cell? ⟨G + 2, 0, none⟩ = some (Bud.choose H G) ∧ (wr.drew.alloc (Obj.cells #[.int .i64 q] 3)).cell? ⟨H + 3, 0, none⟩ = some (.slice (some ad) p.length cp) ∧ (wr.drew.alloc (Obj.cells #[.int .i64 q] 3)).cell? (ad.add s.length) = some (.int .i64 (rd p (s.length : Int))) ∧ (wr.drew.alloc (Obj.cells #[.int .i64 q] 3)).cell? ⟨H, 0, none⟩ = some (.slice (some adg) g.length cg) ∧ (wr.drew.alloc (Obj.cells #[.int .i64 q] 3)).cell? (adg.add s.length) = some (.slice Ag0 (rd_L1 g (s.length : Int)).length cg0) ∧ (wr.drew.alloc (Obj.cells #[.int .i64 q] 3)).cell? ⟨H + 1, 0, none⟩ = some (.int .i64 o) ∧ (wr.drew.alloc (Obj.cells #[.int .i64 q] 3)).cell? ⟨H + 2, 0, none⟩ = some (.int .i64 u) := hHeld
              generalize wr.drew.alloc (Obj.cells #[.int .i64 q] 3) = w4 at hHeld HB4 hg4 hz4 ⊢
              refine one_ (i := 7) (N := some 45) #[true, true, true, true, true, true, true, true, true, true, true, true, true, true, true, true, true, true, true, true, true, true, true, true, false, false, false] rfl rfl (one_of HT_.out (by kernel_rfl)) (by decide) (fun K hK => ?_)
              obtain ⟨i0, hi0, hz0, hz1, hz2⟩ := info_parts info3
              refine Bud.append_full (by rfl) (.tmp 42) (.tmp 44) 23 3 i0 (by rfl) Try.underlying23 hi0 hz0 hz1 hz2 (by rfl) (by rfl) (Kd.C_below (Kd.C_drew HSC.out.2.2) HB4.out) hg4 (by omega) ?_
              intro v5 w5 ho5 hb5
              refine hK.out _ _ ⟨pw_cell_below hb5 (hHeld.1), pw_cell_below hb5 (hHeld.2.1), pw_cell_below hb5 (hHeld.2.2.1), pw_cell_below hb5 (hHeld.2.2.2.1), pw_cell_below hb5 (hHeld.2.2.2.2.1), pw_cell_below hb5 (hHeld.2.2.2.2.2.1), pw_cell_below hb5 (hHeld.2.2.2.2.2.2)⟩ (fun hHeld => ?_)
              clear hK K
              refine norm_ (a' := ?_) ?_ ?_
              rotate_left
              · show Act.put _ (some 45) _ = _
                simp only [Act.put, List.setIfInBounds_toArray, List.set_cons_zero, List.set_cons_succ, i64_w, i32_w]
                rfl
              have hB5 := below_step HB4.out hb5
              have HB5 := Aside0.mk hB5
              clear hB5
              refine one_ (i := 24) (N := some 62) #[true, true, true, true, true, true, true, true, true, true, true, true, true, true, true, true, true, true, true, true, true, true, true, true, true, false, false] rfl rfl (one_of HT_.out (by kernel_rfl)) (by decide) (fun K hK => ?_)
              refine goes_ Try.func44 (by kernel_rfl) rfl #[.slice Ag0 (rd_L1 g (s.length : Int)).length cg0, .int .i64 o, .int .i64 u, .int .i64 q] (by rfl) rfl rfl (by (try simp only [List.map_toArray, List.map_cons, List.map_nil]); first | done | rfl) ?_
              with_reducible refine (impl_costSum.calls kk _ _ (rd_L1 g (s.length : Int)) o u q t _ (Kd.C_below (Kd.C_drew HGR.out) HB5.out) HGC.out HT.out).mono ?_
              rintro e w6 ⟨rfl, hb6⟩
              refine ⟨_, rfl, ?_⟩
              refine hK.out _ _ ⟨pw_cell_below hb6 (hHeld.1), pw_cell_below hb6 (hHeld.2.1), pw_cell_below hb6 (hHeld.2.2.1), pw_cell_below hb6 (hHeld.2.2.2.1), pw_cell_below hb6 (hHeld.2.2.2.2.1), pw_cell_below hb6 (hHeld.2.2.2.2.2.1), pw_cell_below hb6 (hHeld.2.2.2.2.2.2)⟩ (fun hHeld => ?_)
              clear hK K
              refine norm_ (a' := ?_) ?_ ?_
              rotate_left
              · show Act.put _ (some 62) _ = _
                simp only [Act.put, List.setIfInBounds_toArray, List.set_cons_zero, List.set_cons_succ, i64_w, i32_w]
                rfl
              refine pure_ (i := 25) (N := some 63) (v := ?_) (a' := ?_) #[true, true, true, true, true, true, true, true, true, true, true, true, true, true, true, true, true, true, true, true, true, true, true, true, true, true, false] rfl rfl (any_of HT_.out (by kernel_rfl)) (fun _ _ _ h => h) (Or.inl ⟨by rfl, ?_⟩) ?_ ?_
              rotate_left
              · intro w'
                go_simp
                with_reducible rfl
              rotate_left
              · simp only [Act.put, List.setIfInBounds_toArray, List.set_cons_zero, List.set_cons_succ, i64_w, i32_w]
                rfl
              refine last_ (i := 26) (N := some 64) #[true, true, true, true, true, true, true, true, true, true, true, true, true, true, true, true, true, true, true, true, true, true, true, true, true, true, true] rfl rfl (one_of HT_.out (by kernel_rfl)) (by decide) (fun K hK => ?_)
              have HB6 := Aside0.mk (show Below wr.drew.heap.size wr.drew w6 from below_step HB5.out hb6)
              have FB6 : Fr wr w6 G (G + 2) := (Bud.Fr_below HB6.out : Fr wr.drew w6 G (G + 2))
              have hen := EN.out
              have E6 := Bud.Env.fr HE.out FB6 (below_step (below_drew1 KB.out) HB6.out)
              have W06 := (HB6.out.block G (by show G < wr.heap.size; omega)).trans W0.out
              have W16 := (HB6.out.block (G + 1) (by show G + 1 < wr.heap.size; omega)).trans W1.out
              have R56 : Kd.R (Kd.int .i64) 3 w6 H (Bud.okk G) v5 (s ++ [q]) := Kd.R_lower (Kd.R_mono (Kd.R_bound (Kd.R_below ho5 hb6)) (fun k_ hk => Or.inr (by have h1 : w4.heap.size ≤ k_ := hk.2.1; omega))) (by omega)
              refine Bud.goesF Try.func53 (by kernel_rfl) rfl #[v5, .int .i64 (wrap64 (left - wrap64 (q * rd p (s.length : Int)))), .int .i64 (wrap64 (cost + t)), .pointer (some ⟨H, 0, none⟩), .pointer (some ⟨G + 1, 0, none⟩), .pointer (some ⟨G, 0, none⟩), .pointer (some ⟨H + 3, 0, none⟩), .pointer (some ⟨G + 2, 0, none⟩), .pointer (some ⟨H + 1, 0, none⟩), .pointer (some ⟨H + 2, 0, none⟩)] #[.pointer (some ⟨H, 0, none⟩), .pointer (some ⟨G + 1, 0, none⟩), .pointer (some ⟨G, 0, none⟩), .pointer (some ⟨H + 3, 0, none⟩), .pointer (some ⟨G + 2, 0, none⟩), .pointer (some ⟨H + 1, 0, none⟩), .pointer (some ⟨H + 2, 0, none⟩)] (by show Bud.choose H G = _; unfold Bud.choose; rfl) (by rfl) rfl rfl (by simp only [List.map_toArray, List.map_cons, List.map_nil]; rfl) ?_
              refine (HIH.out kk (by have := HK.out; have := HKN.out; omega) (s ++ [q]) v5 _ _ b1 l1 vb1 b2 l2 w6 E6 R56 W06 W16 (Bud.R_fr HV.out FB6) HF.out).mono ?_
              rintro e w7 ⟨rfl, vb2, hw70, hw71, hv7, f7, hb7⟩
              refine ⟨_, rfl, ?_⟩
              refine hK.out _ _ ?_
              clear hK K
              refine norm_ (a' := ?_) ?_ ?_
              rotate_left
              · show Act.put _ (some 64) _ = _
                simp only [Act.put, List.setIfInBounds_toArray, List.set_cons_zero, List.set_cons_succ, i64_w, i32_w]
                rfl
              refine done_ (done_of HT_.out (by kernel_rfl)) ?_
              have hq1 : wrap64 (q + 1) = q + 1 := by have := HK.out; unfold wrap64; omega
              rw [hq1] at HLN
              go_wp2_with fail
              go_roundg kk
              case measure => have := HK.out; omega
              case rel => exact ⟨q + 1, kk, b2, l2, vb2, (by first | rfl | (rw [hq1]; done) | (simp [hq1]; done)), ⟨by have := HK.out; omega⟩, HLN, ⟨Bud.Env.fr E6 f7 hb7⟩, ⟨hw70⟩, ⟨hw71⟩, ⟨hv7⟩, ⟨Bud.R_fr (Bud.R_fr HS.out FB6) f7⟩, ⟨Bud.Fr_trans (Bud.Fr_trans FW.out FB6) f7⟩⟩
            · rw [if_neg c4] at hl
              have c4b : decide (wrap64 (q * rd p (s.length : Int)) ≤ left) = false := decide_eq_false c4
              have HLN := Aside0.mk hl
              have hq1 : wrap64 (q + 1) = q + 1 := by have := HK.out; unfold wrap64; omega
              rw [hq1] at HLN
              clear hl
              go_wp2_with fail
              go_roundg kk
              case measure => have := HK.out; omega
              case rel => exact ⟨q + 1, kk, b1, l1, vb1, (by first | rfl | (simp; done)), ⟨by have := HK.out; omega⟩, HLN, HE, W0, W1, HV, HS, FW⟩
          · rw [if_neg c3] at hl; exact absurd hl (by simp)
        · rw [if_neg c2] at hl
          have c2b : decide (q < 16) = false := decide_eq_false c2
          simp only [Option.some.injEq, Prod.mk.injEq] at hl
          obtain ⟨rfl, rfl⟩ := hl
          go_wp2_with fail
          (try simp only [Exit.inBlock, Exit.then])
          refine bodyPost_end (results_list (rs := []) rfl (by simp) .nil) rfl ?_
          exact ⟨rfl, _, W0.out, W1.out, HV.out, FW.out, KB.out⟩
end Go.Proofs.Ytnojmhcmngejnaa.PFnExactBudgetOrders
