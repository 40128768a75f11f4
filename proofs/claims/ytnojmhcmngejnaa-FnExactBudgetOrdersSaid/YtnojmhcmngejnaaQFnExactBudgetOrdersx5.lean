/- spec.l5Try answers as spec_l5Try.f does, within the rounds. Conditions: the rows of the arguments are there; those of the plan begun are of a block that ok allows. -/
import Derived.Test.YtnojmhcmngejnaaQFnExactBudgetOrdersx0
import Derived.Test.YtnojmhcmngejnaaQFnExactBudgetOrdersx3
import Derived.Deep.RegionLaw
import Derived.Test.YtnojmhcmngejnaaHold
namespace Go.Proofs.Ytnojmhcmngejnaa.PFnExactBudgetOrders
open Go.RowKit Go.Proofs.YtnojmhcmngejnaaW.PrintWords Go.Proofs.YtnojmhcmngejnaaW.PrintLast Go.Proofs.YtnojmhcmngejnaaW.PrintMore Go.Proofs.Ytnojmhcmngejnaa.Hold
set_option linter.unusedVariables false
set_option linter.unusedSimpArgs false
def spec_l5Try.T9 : Bool × List (List Nat × List Nat) := (true, [([], []), ([], []), ([], []), ([], []), ([], []), ([], []), ([], []), ([], []), ([6, 7], [6, 7]), ([8], [8]), ([5, 9], [5, 9]), ([4, 10], [4, 10]), ([], []), ([12], [12]), ([], []), ([14], [14]), ([13, 15, 13], [13, 15]), ([], []), ([], []), ([], []), ([18, 19], [18, 19]), ([20], [20]), ([], []), ([], []), ([], []), ([21, 22, 23, 24, 16], [21, 22, 23, 24]), ([17, 25], [17, 25]), ([], []), ([0, 1, 2, 3, 11, 16, 26, 27, 25], [0, 1, 2, 3, 11, 16, 26, 27]), ([28, 28, 0, 1, 2, 3, 4, 5, 6, 7, 8, 9, 10, 11, 12, 13, 14, 15, 16, 17, 18, 19, 20, 21, 22, 23, 24, 25, 26, 27, 28], [28])])
def spec_l5Try.B9 : List Nat := [0, 0, 0, 0, 0, 0, 0, 0, 192, 448, 992, 2032, 0, 4096, 0, 16384, 61440, 0, 0, 0, 786432, 1835008, 0, 0, 0, 33419264, 67104768, 0, 268435455, 536870911]
theorem spec_l5Try.tab9 : rtab .any (opsOf Try.f52 9) = spec_l5Try.T9 := by kernel_rfl
theorem spec_l5Try.bits9 : waitsOk spec_l5Try.T9.2 spec_l5Try.B9 = true := by kernel_rfl
set_option maxHeartbeats 2000000 in
set_option maxRecDepth 100000 in
theorem spec_l5Try.walk (n : Nat) : ∀ (k : Nat) (_ : k ≤ n) (g : List (List Int)) (p : List Int) (Ag Ap : Option Addr) (cg cp : Nat) (o u left cost bc : Int) (bf : Bool) (s bo : List Int) (vs vb : Value) (ro : List Int) (rc : Int) (rf : Bool) (w : World) (B : Nat) (ok : Nat → Prop)
    (hB : B ≤ w.heap.size) (hok : ∀ k_, w.heap.size ≤ k_ → ok k_) (hrg : Kd.C (Kd.slice 3 (Kd.int .i64)) w Ag g.length g) (hcg : g.length ≤ cg) (hrp : Kd.C (Kd.int .i64) w Ap p.length p) (hcp : p.length ≤ cp)
    (hs : Kd.R (Kd.int .i64) 3 w B ok vs s) (hb : Kd.R (Kd.int .i64) 3 w B ok vb bo)
    (h : spec_l5Try.f k g o u p left s cost bo bc bf = some (ro, rc, rf)),
    Calls Try.prog 52 #[.slice Ag g.length cg, .int .i64 o, .int .i64 u, .slice Ap p.length cp, .int .i64 left, vs, .int .i64 cost, .agg #[vb, .int .i64 bc, .bool bf]] w fun e w' => ∃ v : Value, e = .returned (.agg #[v, .int .i64 rc, .bool rf]) ∧ Kd.R (Kd.int .i64) 3 w' B ok v ro ∧ Below w.heap.size w w' := by
  induction n with
  | zero => intro k hk g p Ag Ap cg cp o u left cost bc bf s bo vs vb ro rc rf w B ok hB hok hrg hcg hrp hcp hs hb h; obtain rfl : k = 0 := by omega
            simp [spec_l5Try.f] at h
  | succ n IH =>
    intro k hk g p Ag Ap cg cp o u left cost bc bf s bo vs vb ro rc rf w B ok hB hok hrg hcg hrp hcp hs hb h
    cases k with
    | zero => simp [spec_l5Try.f] at h
    | succ k =>
    have HRG := Aside0.mk hrg
    have HRP := Aside0.mk hrp
    have HS := Aside0.mk hs
    have HV := Aside0.mk hb
    have HBB := Aside0.mk hB
    have HOK := Aside0.mk hok
    have HKN := Aside0.mk hk
    have HCG := Aside0.mk hcg
    have HCP := Aside0.mk hcp
    have HIH := Aside0.mk IH
    clear hok hk hcg hcp IH
    obtain ⟨As, cs, rfl⟩ := Kd.R_slice hs
    obtain ⟨Ab, cb, rfl⟩ := Kd.R_slice hb
    clear hrg hrp hs hb hB
    have KB := Aside0.mk (Below.refl w.heap.size w)
    simp only [spec_l5Try.f] at h
    by_cases c1 : (s.length : Int) = (g.length : Int)
    · rw [if_pos c1] at h
      have c1b : decide ((s.length : Int) = (g.length : Int)) = true := decide_eq_true c1
      have c1c : ((s.length : Int) == (g.length : Int)) = true := beq_iff_eq.2 c1
      clear c1
      cases bf with
      | false =>
        rw [if_neg (by decide)] at h
        simp only [Option.some.injEq, Prod.mk.injEq] at h
        obtain ⟨rfl, rfl, rfl⟩ := h
        go_enter Try.func52, Try.ntmps52
        go_wp2_with fail
        (try simp only [Exit.inBlock, Exit.then])
        refine bodyPost_ret (results_cell_row rfl _ _ (w.heap.size + 1) 62 #[.slice As s.length cs, .int .i64 cost, .bool true] (0, 0) _ rfl (heap_alloc2_new _ _ _) Try.underlying62 rfl (by kernel_rfl)) rfl ?_
        exact ⟨_, by first | rfl | (simp; done), by (with_reducible repeat (first | apply Kd.R_alloc | apply Kd.R_drewN | apply Kd.R_drew)); exact HS.out, by repeat (first | (with_reducible first | exact KB.out | apply below_alloc | apply below_drew1) | exact KB.out)⟩
      | true =>
        rw [if_pos rfl] at h
        by_cases c2 : cost < bc
        · rw [if_pos c2] at h
          have c2b : decide (cost < bc) = true := decide_eq_true c2
          clear c2
          simp only [Option.some.injEq, Prod.mk.injEq] at h
          obtain ⟨rfl, rfl, rfl⟩ := h
          go_enter Try.func52, Try.ntmps52
          go_wp2_with fail
          (try simp only [Exit.inBlock, Exit.then])
          refine bodyPost_ret (results_cell_row rfl _ _ (w.heap.size + 1) 62 #[.slice As s.length cs, .int .i64 cost, .bool true] (0, 0) _ rfl (heap_alloc2_new _ _ _) Try.underlying62 rfl (by kernel_rfl)) rfl ?_
          exact ⟨_, by first | rfl | (simp; done), by (with_reducible repeat (first | apply Kd.R_alloc | apply Kd.R_drewN | apply Kd.R_drew)); exact HS.out, by repeat (first | (with_reducible first | exact KB.out | apply below_alloc | apply below_drew1) | exact KB.out)⟩
        · rw [if_neg c2] at h
          have c2b : decide (cost < bc) = false := decide_eq_false c2
          clear c2
          simp only [Option.some.injEq, Prod.mk.injEq] at h
          obtain ⟨rfl, rfl, rfl⟩ := h
          go_enter Try.func52, Try.ntmps52
          go_wp2_with fail
          (try simp only [Exit.inBlock, Exit.then])
          refine bodyPost_ret (results_cell_row rfl _ _ (w.heap.size + 1) 62 #[.slice Ab bo.length cb, .int .i64 bc, .bool true] (0, 0) _ rfl (heap_alloc2_new _ _ _) Try.underlying62 rfl (by kernel_rfl)) rfl ?_
          exact ⟨_, by first | rfl | (simp; done), by (with_reducible repeat (first | apply Kd.R_alloc | apply Kd.R_drewN | apply Kd.R_drew)); exact HV.out, by repeat (first | (with_reducible first | exact KB.out | apply below_alloc | apply below_drew1) | exact KB.out)⟩
    · rw [if_neg c1] at h
      have c1b : decide ((s.length : Int) = (g.length : Int)) = false := decide_eq_false c1
      have c1c : ((s.length : Int) == (g.length : Int)) = false := beq_eq_false_iff_ne.2 c1
      go_enter Try.func52, Try.ntmps52
      go_wp2_with fail
      have hl := h
      clear h
      have W0 := Aside0.mk (show ((w.alloc (Obj.cells #[Value.slice Ab bo.length cb, Value.int IntKind.i64 bc, Value.bool bf] 62)).alloc (Obj.cells #[Value.slice none 0 0, Value.int IntKind.i64 0, Value.bool false] 62)).heap[w.heap.size]? = some (.cells #[Value.slice Ab bo.length cb, Value.int IntKind.i64 bc, Value.bool bf] 62 (0, 0)) from heap_alloc2_old _ _ _)
      have W1 := Aside0.mk (show ((w.alloc (Obj.cells #[Value.slice Ab bo.length cb, Value.int IntKind.i64 bc, Value.bool bf] 62)).alloc (Obj.cells #[Value.slice none 0 0, Value.int IntKind.i64 0, Value.bool false] 62)).heap[w.heap.size + 1]? = some (.cells #[Value.slice none 0 0, Value.int IntKind.i64 0, Value.bool false] 62 (0, 0)) from heap_alloc2_new _ _ _)
      obtain ⟨ok', hok'⟩ : ∃ ok' : Nat → Prop, ok' = fun k_ => ok k_ ∧ k_ ≠ w.heap.size ∧ k_ ≠ w.heap.size + 1 := ⟨_, rfl⟩
      have R0 := Aside0.mk (show Kd.R (Kd.int .i64) 3 ((w.alloc (Obj.cells #[Value.slice Ab bo.length cb, Value.int IntKind.i64 bc, Value.bool bf] 62)).alloc (Obj.cells #[Value.slice none 0 0, Value.int IntKind.i64 0, Value.bool false] 62)) B ok' (.slice Ab bo.length cb) bo from by
        rw [hok']; exact Kd.R_alloc (Kd.R_alloc (Kd.R_mono (Kd.R_bound HV.out) (fun k_ hk => ⟨hk.1, by have := hk.2; omega, by have := hk.2; omega⟩)) _) _)
      have R1 := Aside0.mk (show Kd.R (Kd.int .i64) 3 ((w.alloc (Obj.cells #[Value.slice Ab bo.length cb, Value.int IntKind.i64 bc, Value.bool bf] 62)).alloc (Obj.cells #[Value.slice none 0 0, Value.int IntKind.i64 0, Value.bool false] 62)) B ok' (.slice As s.length cs) s from by
        rw [hok']; exact Kd.R_alloc (Kd.R_alloc (Kd.R_mono (Kd.R_bound HS.out) (fun k_ hk => ⟨hk.1, by have := hk.2; omega, by have := hk.2; omega⟩)) _) _)
      have HOK' := Aside0.mk hok'
      clear hok'
      have KB' := Aside0.mk (below_alloc (below_alloc KB.out (Obj.cells #[Value.slice Ab bo.length cb, Value.int IntKind.i64 bc, Value.bool bf] 62)) (Obj.cells #[Value.slice none 0 0, Value.int IntKind.i64 0, Value.bool false] 62))
      have SZ := Aside0.mk (show ((w.alloc (Obj.cells #[Value.slice Ab bo.length cb, Value.int IntKind.i64 bc, Value.bool bf] 62)).alloc (Obj.cells #[Value.slice none 0 0, Value.int IntKind.i64 0, Value.bool false] 62)).heap.size = w.heap.size + 2 from by simp)
      have HL := Aside0.mk hl
      clear hl KB
      generalize (w.alloc (Obj.cells #[Value.slice Ab bo.length cb, Value.int IntKind.i64 bc, Value.bool bf] 62)).alloc (Obj.cells #[Value.slice none 0 0, Value.int IntKind.i64 0, Value.bool false] 62) = w2 at W0 W1 R0 R1 KB' SZ ⊢
      go_loopg [18] k (fun kq v18 W => ∃ (q : Int) (kk : Nat) (b' : List Int) (bc' : Int) (bf' : Bool) (vb' : Value), v18 = .int .i64 q ∧ Aside0 (kk ≤ kq ∧ 0 ≤ q ∧ kk ≤ k) ∧ Aside0 (spec_l5Try.l kk g o u p left s cost b' bc' bf' q = some (ro, rc, rf)) ∧ Aside0 (W.heap[w.heap.size]? = some (.cells #[vb', .int .i64 bc', .bool bf'] 62 (0, 0))) ∧ Aside0 (W.heap[w.heap.size + 1]? = some (.cells #[.slice none 0 0, .int .i64 0, .bool false] 62 (0, 0))) ∧ Aside0 (Kd.R (Kd.int .i64) 3 W B ok' vb' b') ∧ Aside0 (Kd.R (Kd.int .i64) 3 W B ok' (.slice As s.length cs) s) ∧ Aside0 (Below w.heap.size w W) ∧ Aside0 (w.heap.size + 2 ≤ W.heap.size))
      case atStart => exact ⟨0, k, bo, bc, bf, _, rfl, ⟨Nat.le_refl _, by omega, Nat.le_refl _⟩, HL, W0, W1, R0, R1, KB', ⟨by have := SZ.out; omega⟩⟩
      case round =>
        clear W0 W1 R0 R1 KB' SZ HL
        obtain ⟨q, kk, b', bc', bf', vb', rfl, HK, HL, W0, W1, R0, R1, KB, SZ⟩ := hrel
        have hl := HL.out
        cases kk with
        | zero => simp [spec_l5Try.l] at hl
        | succ kk =>
        simp only [spec_l5Try.l] at hl
        obtain ⟨Av, cv, rfl⟩ := Kd.R_slice R0.out
        clear HL
        have hc0 : wr.cell? ⟨w.heap.size, 0, none⟩ = some (.slice Av b'.length cv) := (blk_cell W0.out 0).trans rfl
        have hc1 : wr.cell? ⟨w.heap.size, 1, none⟩ = some (.int .i64 bc') := (blk_cell W0.out 1).trans rfl
        have hc2 : wr.cell? ⟨w.heap.size, 2, none⟩ = some (.bool bf') := (blk_cell W0.out 2).trans rfl
        have hd0 : wr.cell? ⟨w.heap.size + 1, 0, none⟩ = some (.slice none 0 0) := (blk_cell W1.out 0).trans rfl
        have hd1 : wr.cell? ⟨w.heap.size + 1, 1, none⟩ = some (.int .i64 0) := (blk_cell W1.out 1).trans rfl
        have hd2 : wr.cell? ⟨w.heap.size + 1, 2, none⟩ = some (.bool false) := (blk_cell W1.out 2).trans rfl
        have hf0 := blk_frozen W0.out 0
        have hf1 := blk_frozen W0.out 1
        have hf2 := blk_frozen W0.out 2
        have hg0 := blk_frozen W1.out 0
        have hg1 := blk_frozen W1.out 1
        have hg2 := blk_frozen W1.out 2
        by_cases c2 : q ≤ 15
        · rw [if_pos c2] at hl
          have c2b : decide (q ≤ 15) = true := decide_eq_true c2
          by_cases c3 : (s.length : Int) < (p.length : Int)
          · rw [if_pos c3] at hl
            obtain ⟨ad, e, hx⟩ := Kd.at_int (Kd.C_below HRP.out KB.out) (s.length : Int) (by omega) c3
            cases e
            rw [Int.toNat_natCast] at hx
            have c3b : ((s.length : Int) < (p.length : Int)) = True := eq_true c3
            have c3c : (0 ≤ (s.length : Int)) = True := eq_true (by omega)
            by_cases c4 : wrap64 (q * rd p (s.length : Int)) ≤ left
            · rw [if_pos c4] at hl
              have c4b : decide (wrap64 (q * rd p (s.length : Int)) ≤ left) = true := decide_eq_true c4
              have c5 : (s.length : Int) < (g.length : Int) := by
                by_cases z : (s.length : Int) < (g.length : Int)
                · exact z
                · rw [if_neg z] at hl; exact absurd hl (by simp)
              rw [if_pos c5] at hl
              obtain ⟨adg, Ag0, cg0, eg, hxg, hlg, hig⟩ := at_L1 (Kd.C_below HRG.out KB.out) (s.length : Int) (by omega) c5
              cases eg
              rw [Int.toNat_natCast] at hxg
              have c5b : ((s.length : Int) < (g.length : Int)) = True := eq_true c5
              have HGR := Aside0.mk hig
              have HGC := Aside0.mk hlg
              clear hig hlg
              obtain ⟨y, hy, hl⟩ := Option.bind_eq_some_iff.mp hl
              have c6 : y.length < 17592186044416 := by
                by_cases z : y.length < 17592186044416
                · exact z
                · rw [if_neg z] at hl; exact absurd hl (by simp)
              rw [if_pos c6] at hl
              obtain ⟨t, ht, hl⟩ := Option.bind_eq_some_iff.mp hl
              obtain ⟨⟨b1, b2, b3⟩, hf, hl⟩ := Option.bind_eq_some_iff.mp hl
              have HY := Aside0.mk hy
              have HT := Aside0.mk ht
              have HF := Aside0.mk hf
              have HLN := Aside0.mk hl
              clear hy ht hf hl
              go_wp2_with fail
              refine start_ (n := 30) (S := fun w' => w'.cell? ⟨w.heap.size, 0, none⟩ = some (.slice Av b'.length cv) ∧ w'.cell? ⟨w.heap.size, 1, none⟩ = some (.int .i64 bc') ∧ w'.cell? ⟨w.heap.size, 2, none⟩ = some (.bool bf') ∧ w'.cell? (ad.add s.length) = some (.int .i64 (rd p (s.length : Int))) ∧ w'.cell? (adg.add s.length) = some (.slice Ag0 (rd_L1 g (s.length : Int)).length cg0)) (ds := [29]) #[false, false, false, false, false, false, false, false, false, false, false, false, false, false, false, false, false, false, false, false, false, false, false, false, false, false, false, false, false, false] (by kernel_rfl) rfl rfl ⟨hc0, hc1, hc2, hx, hxg⟩ (fun hHeld => ?_); refine with_tabW spec_l5Try.tab9 spec_l5Try.bits9 (fun HT_ HW_ => ?_)
              have W0d := Aside0.mk (blk_drew W0.out)
              refine pure_ (i := 0) (N := some 53) (v := ?_) (a' := ?_) #[true, false, false, false, false, false, false, false, false, false, false, false, false, false, false, false, false, false, false, false, false, false, false, false, false, false, false, false, false, false] rfl rfl (any_of HT_.out (by kernel_rfl)) (fun _ _ _ h => h) (Or.inl ⟨by rfl, ?_⟩) ?_ ?_
              rotate_left
              · intro w'
                go_simp
                with_reducible rfl
              rotate_left
              · simp only [Act.put, List.setIfInBounds_toArray, List.set_cons_zero, List.set_cons_succ, i64_w, i32_w]
                rfl
              refine pure_ (i := 1) (N := some 54) (v := ?_) (a' := ?_) #[true, true, false, false, false, false, false, false, false, false, false, false, false, false, false, false, false, false, false, false, false, false, false, false, false, false, false, false, false, false] rfl rfl (any_of HT_.out (by kernel_rfl)) (fun _ _ _ h => h) (Or.inl ⟨by rfl, ?_⟩) ?_ ?_
              rotate_left
              · intro w'
                go_simp
                with_reducible rfl
              rotate_left
              · simp only [Act.put, List.setIfInBounds_toArray, List.set_cons_zero, List.set_cons_succ, i64_w, i32_w]
                rfl
              refine pure_ (i := 2) (N := some 55) (v := ?_) (a' := ?_) #[true, true, true, false, false, false, false, false, false, false, false, false, false, false, false, false, false, false, false, false, false, false, false, false, false, false, false, false, false, false] rfl rfl (any_of HT_.out (by kernel_rfl)) (fun _ _ _ h => h) (Or.inl ⟨by rfl, ?_⟩) ?_ ?_
              rotate_left
              · intro w'
                go_simp
                with_reducible rfl
              rotate_left
              · simp only [Act.put, List.setIfInBounds_toArray, List.set_cons_zero, List.set_cons_succ, i64_w, i32_w]
                rfl
              refine pure_ (i := 3) (N := some 56) (v := ?_) (a' := ?_) #[true, true, true, true, false, false, false, false, false, false, false, false, false, false, false, false, false, false, false, false, false, false, false, false, false, false, false, false, false, false] rfl rfl (any_of HT_.out (by kernel_rfl)) (fun _ _ _ h => h) (Or.inl ⟨by rfl, ?_⟩) ?_ ?_
              rotate_left
              · intro w'
                go_simp
                with_reducible rfl
              rotate_left
              · simp only [Act.put, List.setIfInBounds_toArray, List.set_cons_zero, List.set_cons_succ, i64_w, i32_w]
                rfl
              refine pure_ (i := 4) (N := some 57) (v := ?_) (a' := ?_) #[true, true, true, true, true, false, false, false, false, false, false, false, false, false, false, false, false, false, false, false, false, false, false, false, false, false, false, false, false, false] rfl rfl (any_of HT_.out (by kernel_rfl)) (fun _ _ _ h => h) (Or.inl ⟨by rfl, ?_⟩) ?_ ?_
              rotate_left
              · intro w'
                go_simp
                with_reducible rfl
              rotate_left
              · simp only [Act.put, List.setIfInBounds_toArray, List.set_cons_zero, List.set_cons_succ, i64_w, i32_w]
                rfl
              refine pure_ (i := 5) (N := some 58) (v := ?_) (a' := ?_) #[true, true, true, true, true, true, false, false, false, false, false, false, false, false, false, false, false, false, false, false, false, false, false, false, false, false, false, false, false, false] rfl rfl (any_of HT_.out (by kernel_rfl)) (fun _ _ _ h => h) (Or.inl ⟨by rfl, ?_⟩) ?_ ?_
              rotate_left
              · intro w'
                go_simp
                with_reducible rfl
              rotate_left
              · simp only [Act.put, List.setIfInBounds_toArray, List.set_cons_zero, List.set_cons_succ, i64_w, i32_w]
                rfl
              refine pure_ (i := 6) (N := some 59) (v := ?_) (a' := ?_) #[true, true, true, true, true, true, true, false, false, false, false, false, false, false, false, false, false, false, false, false, false, false, false, false, false, false, false, false, false, false] rfl rfl (any_of HT_.out (by kernel_rfl)) (fun _ _ _ h => h) (Or.inl ⟨by rfl, ?_⟩) ?_ ?_
              rotate_left
              · intro w'
                go_simp
                with_reducible rfl
              rotate_left
              · simp only [Act.put, List.setIfInBounds_toArray, List.set_cons_zero, List.set_cons_succ, i64_w, i32_w]
                rfl
              refine pure_ (i := 7) (N := some 60) (v := ?_) (a' := ?_) #[true, true, true, true, true, true, true, true, false, false, false, false, false, false, false, false, false, false, false, false, false, false, false, false, false, false, false, false, false, false] rfl rfl (any_of HT_.out (by kernel_rfl)) (fun _ _ _ h => h) (Or.inl ⟨by rfl, ?_⟩) ?_ ?_
              rotate_left
              · intro w'
                go_simp
                with_reducible rfl
              rotate_left
              · simp only [Act.put, List.setIfInBounds_toArray, List.set_cons_zero, List.set_cons_succ, i64_w, i32_w]
                rfl
              refine pure_ (i := 8) (N := some 61) (v := ?_) (a' := ?_) #[true, true, true, true, true, true, true, true, true, false, false, false, false, false, false, false, false, false, false, false, false, false, false, false, false, false, false, false, false, false] rfl rfl (any_of HT_.out (by kernel_rfl)) (fun _ _ _ h => h) (Or.inl ⟨by rfl, ?_⟩) ?_ ?_
              rotate_left
              · intro w'
                go_simp
                with_reducible rfl
              rotate_left
              · simp only [Act.put, List.setIfInBounds_toArray, List.set_cons_zero, List.set_cons_succ, i64_w, i32_w]
                rfl
              refine take_ (i := 9) (N := some 62) (v := ?_) (a' := ?_) #[true, true, true, true, true, true, true, true, true, true, false, false, false, false, false, false, false, false, false, false, false, false, false, false, false, false, false, false, false, false] rfl rfl (take_ofW HT_.out HW_.out (by kernel_rfl)) (fun _ _ _ h => h) (Or.inl ⟨by rfl, ?_⟩) hHeld ?_ ?_
              rotate_left
              · rintro w' ⟨s0, s1, s2, s3, s4⟩
                go_simp
                with_reducible rfl
              rotate_left
              · simp only [Act.put, List.setIfInBounds_toArray, List.set_cons_zero, List.set_cons_succ, i64_w, i32_w]
                rfl
              refine pure_ (i := 10) (N := some 63) (v := ?_) (a' := ?_) #[true, true, true, true, true, true, true, true, true, true, true, false, false, false, false, false, false, false, false, false, false, false, false, false, false, false, false, false, false, false] rfl rfl (any_of HT_.out (by kernel_rfl)) (fun _ _ _ h => h) (Or.inl ⟨by rfl, ?_⟩) ?_ ?_
              rotate_left
              · intro w'
                go_simp
                with_reducible rfl
              rotate_left
              · simp only [Act.put, List.setIfInBounds_toArray, List.set_cons_zero, List.set_cons_succ, i64_w, i32_w]
                rfl
              refine pure_ (i := 11) (N := some 64) (v := ?_) (a' := ?_) #[true, true, true, true, true, true, true, true, true, true, true, true, false, false, false, false, false, false, false, false, false, false, false, false, false, false, false, false, false, false] rfl rfl (any_of HT_.out (by kernel_rfl)) (fun _ _ _ h => h) (Or.inl ⟨by rfl, ?_⟩) ?_ ?_
              rotate_left
              · intro w'
                go_simp
                with_reducible rfl
              rotate_left
              · simp only [Act.put, List.setIfInBounds_toArray, List.set_cons_zero, List.set_cons_succ, i64_w, i32_w]
                rfl
              refine pure_ (i := 12) (N := some 65) (v := ?_) (a' := ?_) #[true, true, true, true, true, true, true, true, true, true, true, true, true, false, false, false, false, false, false, false, false, false, false, false, false, false, false, false, false, false] rfl rfl (any_of HT_.out (by kernel_rfl)) (fun _ _ _ h => h) (Or.inl ⟨by rfl, ?_⟩) ?_ ?_
              rotate_left
              · intro w'
                go_simp
                with_reducible rfl
              rotate_left
              · simp only [Act.put, List.setIfInBounds_toArray, List.set_cons_zero, List.set_cons_succ, i64_w, i32_w]
                rfl
              refine pure_ (i := 14) (N := some 67) (v := ?_) (a' := ?_) #[true, true, true, true, true, true, true, true, true, true, true, true, true, false, true, false, false, false, false, false, false, false, false, false, false, false, false, false, false, false] rfl rfl (any_of HT_.out (by kernel_rfl)) (fun _ _ _ h => h) (Or.inl ⟨by rfl, ?_⟩) ?_ ?_
              rotate_left
              · intro w'
                go_simp
                with_reducible rfl
              rotate_left
              · simp only [Act.put, List.setIfInBounds_toArray, List.set_cons_zero, List.set_cons_succ, i64_w, i32_w]
                rfl
              refine pure_ (i := 17) (N := some 70) (v := ?_) (a' := ?_) #[true, true, true, true, true, true, true, true, true, true, true, true, true, false, true, false, false, true, false, false, false, false, false, false, false, false, false, false, false, false] rfl rfl (any_of HT_.out (by kernel_rfl)) (fun _ _ _ h => h) (Or.inl ⟨by rfl, ?_⟩) ?_ ?_
              rotate_left
              · intro w'
                go_simp
                with_reducible rfl
              rotate_left
              · simp only [Act.put, List.setIfInBounds_toArray, List.set_cons_zero, List.set_cons_succ, i64_w, i32_w]
                rfl
              refine pure_ (i := 18) (N := some 71) (v := ?_) (a' := ?_) #[true, true, true, true, true, true, true, true, true, true, true, true, true, false, true, false, false, true, true, false, false, false, false, false, false, false, false, false, false, false] rfl rfl (any_of HT_.out (by kernel_rfl)) (fun _ _ _ h => h) (Or.inl ⟨by rfl, ?_⟩) ?_ ?_
              rotate_left
              · intro w'
                go_simp
                with_reducible rfl
              rotate_left
              · simp only [Act.put, List.setIfInBounds_toArray, List.set_cons_zero, List.set_cons_succ, i64_w, i32_w]
                rfl
              refine pure_ (i := 19) (N := some 72) (v := ?_) (a' := ?_) #[true, true, true, true, true, true, true, true, true, true, true, true, true, false, true, false, false, true, true, true, false, false, false, false, false, false, false, false, false, false] rfl rfl (any_of HT_.out (by kernel_rfl)) (fun _ _ _ h => h) (Or.inl ⟨by rfl, ?_⟩) ?_ ?_
              rotate_left
              · intro w'
                go_simp
                with_reducible rfl
              rotate_left
              · simp only [Act.put, List.setIfInBounds_toArray, List.set_cons_zero, List.set_cons_succ, i64_w, i32_w]
                rfl
              refine pure_ (i := 20) (N := some 73) (v := ?_) (a' := ?_) #[true, true, true, true, true, true, true, true, true, true, true, true, true, false, true, false, false, true, true, true, true, false, false, false, false, false, false, false, false, false] rfl rfl (any_of HT_.out (by kernel_rfl)) (fun _ _ _ h => h) (Or.inl ⟨by rfl, ?_⟩) ?_ ?_
              rotate_left
              · intro w'
                go_simp
                with_reducible rfl
              rotate_left
              · simp only [Act.put, List.setIfInBounds_toArray, List.set_cons_zero, List.set_cons_succ, i64_w, i32_w]
                rfl
              refine take_ (i := 21) (N := some 74) (v := ?_) (a' := ?_) #[true, true, true, true, true, true, true, true, true, true, true, true, true, false, true, false, false, true, true, true, true, true, false, false, false, false, false, false, false, false] rfl rfl (take_ofW HT_.out HW_.out (by kernel_rfl)) (fun _ _ _ h => h) (Or.inl ⟨by rfl, ?_⟩) hHeld ?_ ?_
              rotate_left
              · rintro w' ⟨s0, s1, s2, s3, s4⟩
                go_simp
                with_reducible rfl
              rotate_left
              · simp only [Act.put, List.setIfInBounds_toArray, List.set_cons_zero, List.set_cons_succ, i64_w, i32_w]
                rfl
              refine pure_ (i := 22) (N := some 75) (v := ?_) (a' := ?_) #[true, true, true, true, true, true, true, true, true, true, true, true, true, false, true, false, false, true, true, true, true, true, true, false, false, false, false, false, false, false] rfl rfl (any_of HT_.out (by kernel_rfl)) (fun _ _ _ h => h) (Or.inl ⟨by rfl, ?_⟩) ?_ ?_
              rotate_left
              · intro w'
                go_simp
                with_reducible rfl
              rotate_left
              · simp only [Act.put, List.setIfInBounds_toArray, List.set_cons_zero, List.set_cons_succ, i64_w, i32_w]
                rfl
              refine pure_ (i := 23) (N := some 76) (v := ?_) (a' := ?_) #[true, true, true, true, true, true, true, true, true, true, true, true, true, false, true, false, false, true, true, true, true, true, true, true, false, false, false, false, false, false] rfl rfl (any_of HT_.out (by kernel_rfl)) (fun _ _ _ h => h) (Or.inl ⟨by rfl, ?_⟩) ?_ ?_
              rotate_left
              · intro w'
                go_simp
                with_reducible rfl
              rotate_left
              · simp only [Act.put, List.setIfInBounds_toArray, List.set_cons_zero, List.set_cons_succ, i64_w, i32_w]
                rfl
              refine pure_ (i := 24) (N := some 77) (v := ?_) (a' := ?_) #[true, true, true, true, true, true, true, true, true, true, true, true, true, false, true, false, false, true, true, true, true, true, true, true, true, false, false, false, false, false] rfl rfl (any_of HT_.out (by kernel_rfl)) (fun _ _ _ h => h) (Or.inl ⟨by rfl, ?_⟩) ?_ ?_
              rotate_left
              · intro w'
                go_simp
                with_reducible rfl
              rotate_left
              · simp only [Act.put, List.setIfInBounds_toArray, List.set_cons_zero, List.set_cons_succ, i64_w, i32_w]
                rfl
              refine take_ (i := 27) (N := some 80) (v := ?_) (a' := ?_) #[true, true, true, true, true, true, true, true, true, true, true, true, true, false, true, false, false, true, true, true, true, true, true, true, true, false, false, true, false, false] rfl rfl (take_ofW HT_.out HW_.out (by kernel_rfl)) (fun _ _ _ h => h) (Or.inl ⟨by rfl, ?_⟩) hHeld ?_ ?_
              rotate_left
              · rintro w' ⟨s0, s1, s2, s3, s4⟩
                go_simp
                with_reducible rfl
              rotate_left
              · simp only [Act.put, List.setIfInBounds_toArray, List.set_cons_zero, List.set_cons_succ, i64_w, i32_w]
                rfl
              refine join_ 5 #[true, true, true, true, true, true, true, true, true, true, true, true, true, true, true, true, false, true, true, true, true, true, true, true, true, false, false, true, false, false] (fun s : Value × Nat => [(66, s.1), (68, .slice (some ⟨s.2, 0, none⟩) 1 1)]) (fun s w' => Kd.R (Kd.int .i64) 3 w' wr.drew.heap.size (fun _ => True) s.1 y ∧ w'.heap[s.2]? = some (.cells #[.int .i64 q] 3 (0, 0)) ∧ Below wr.drew.heap.size wr.drew w' ∧ s.2 < w'.heap.size ∧ wr.drew.heap.size ≤ s.2) ?hcont_ ?hways_
              case hways_ =>
                intro hcont
                have HCONT := Aside0.mk hcont
                clear hcont
                refine two_ (i := 13) (j := 15) (Ni := some 66) (Nj := some 68) #[true, true, true, true, true, true, true, true, true, true, true, true, true, true, true, false, false, true, true, true, true, true, true, true, true, false, false, true, false, false] #[true, true, true, true, true, true, true, true, true, true, true, true, true, false, true, true, false, true, true, true, true, true, true, true, true, false, false, true, false, false] rfl rfl rfl rfl (two_of HT_.out (by kernel_rfl)) (by decide) (by decide) (fun K hK => ?_) (fun K hK => ?_)
                · refine goes_ Try.func69 (by kernel_rfl) rfl #[.slice As s.length cs] (by rfl) rfl rfl (by (try simp only [List.map_toArray, List.map_cons, List.map_nil]); first | done | rfl) ?_
                  with_reducible refine (spec_l1Own.calls _ _ s y _ (Kd.C_drew (Kd.R_reads' R1.out).2.2) (Kd.R_reads' R1.out).2.1 HY.out).mono ?_
                  rintro e w3 ⟨v3, rfl, ho3, hb3⟩
                  refine ⟨_, rfl, ?_⟩
                  refine hK.out _ _ ⟨pw_cell_below hb3 hHeld.1, pw_cell_below hb3 hHeld.2.1, pw_cell_below hb3 hHeld.2.2.1, pw_cell_below hb3 hHeld.2.2.2.1, pw_cell_below hb3 hHeld.2.2.2.2⟩ (fun hHeld => ?_)
                  clear hK K
                  refine norm_ (a' := ?_) ?_ ?_
                  rotate_left
                  · show Act.put _ (some 66) _ = _
                    simp only [Act.put, List.setIfInBounds_toArray, List.set_cons_zero, List.set_cons_succ, i64_w, i32_w]
                    rfl
                  refine one_ (i := 15) (N := some 68) #[true, true, true, true, true, true, true, true, true, true, true, true, true, true, true, true, false, true, true, true, true, true, true, true, true, false, false, true, false, false] rfl rfl (one_of HT_.out (by kernel_rfl)) (by decide) (fun K hK => ?_)
                  refine value_ (w1 := ?_) (v := ?_) (by rfl) rfl ?_ ?_
                  rotate_left 2
                  · go_simp
                    constructor
                    · rfl
                    · rfl
                  refine hK.out _ _ ⟨(World.cell?_alloc_lt _ _ _ (World.block_lt_of_cell? _ _ (hHeld.1))).trans (hHeld.1), (World.cell?_alloc_lt _ _ _ (World.block_lt_of_cell? _ _ (hHeld.2.1))).trans (hHeld.2.1), (World.cell?_alloc_lt _ _ _ (World.block_lt_of_cell? _ _ (hHeld.2.2.1))).trans (hHeld.2.2.1), (World.cell?_alloc_lt _ _ _ (World.block_lt_of_cell? _ _ (hHeld.2.2.2.1))).trans (hHeld.2.2.2.1), (World.cell?_alloc_lt _ _ _ (World.block_lt_of_cell? _ _ (hHeld.2.2.2.2))).trans (hHeld.2.2.2.2)⟩ (fun hHeld => ?_)
                  clear hK K
                  refine norm_ (a' := ?_) ?_ ?_
                  rotate_left
                  · show Act.put _ (some 68) _ = _
                    simp only [Act.put, List.setIfInBounds_toArray, List.set_cons_zero, List.set_cons_succ, i64_w, i32_w]
                    rfl
                  have hc := HCONT.out (v3, w3.heap.size) _ ⟨Kd.R_alloc ho3 _, heap_alloc_new w3 _, below_alloc hb3 _, by simp, hb3.size⟩
                  simp only [putAll, Act.put, List.setIfInBounds_toArray, List.set_cons_zero, List.set_cons_succ, i64_w, i32_w] at hc
                  exact hc
                · refine value_ (w1 := ?_) (v := ?_) (by rfl) rfl ?_ ?_
                  rotate_left 2
                  · go_simp
                    constructor
                    · rfl
                    · rfl
                  refine hK.out _ _ ⟨(World.cell?_alloc_lt _ _ _ (World.block_lt_of_cell? _ _ (hHeld.1))).trans (hHeld.1), (World.cell?_alloc_lt _ _ _ (World.block_lt_of_cell? _ _ (hHeld.2.1))).trans (hHeld.2.1), (World.cell?_alloc_lt _ _ _ (World.block_lt_of_cell? _ _ (hHeld.2.2.1))).trans (hHeld.2.2.1), (World.cell?_alloc_lt _ _ _ (World.block_lt_of_cell? _ _ (hHeld.2.2.2.1))).trans (hHeld.2.2.2.1), (World.cell?_alloc_lt _ _ _ (World.block_lt_of_cell? _ _ (hHeld.2.2.2.2))).trans (hHeld.2.2.2.2)⟩ (fun hHeld => ?_)
                  clear hK K
                  refine norm_ (a' := ?_) ?_ ?_
                  rotate_left
                  · show Act.put _ (some 68) _ = _
                    simp only [Act.put, List.setIfInBounds_toArray, List.set_cons_zero, List.set_cons_succ, i64_w, i32_w]
                    rfl
                  show wpAnyLast _ _ _ _ _ _ _ _ _ (wr.drew.alloc (Obj.cells #[.int .i64 q] 3))
                  have HB9 := Aside0.mk (below_alloc (Below.refl wr.drew.heap.size wr.drew) (Obj.cells #[.int .i64 q] 3))
                  refine one_ (i := 13) (N := some 66) #[true, true, true, true, true, true, true, true, true, true, true, true, true, true, true, true, false, true, true, true, true, true, true, true, true, false, false, true, false, false] rfl rfl (one_of HT_.out (by kernel_rfl)) (by decide) (fun K hK => ?_)
                  refine goes_ Try.func69 (by kernel_rfl) rfl #[.slice As s.length cs] (by rfl) rfl rfl (by (try simp only [List.map_toArray, List.map_cons, List.map_nil]); first | done | rfl) ?_
                  with_reducible refine (spec_l1Own.calls _ _ s y _ (Kd.C_alloc (Kd.C_drew (Kd.R_reads' R1.out).2.2) _) (Kd.R_reads' R1.out).2.1 HY.out).mono ?_
                  rintro e w3 ⟨v3, rfl, ho3, hb3⟩
                  refine ⟨_, rfl, ?_⟩
                  refine hK.out _ _ ⟨pw_cell_below hb3 hHeld.1, pw_cell_below hb3 hHeld.2.1, pw_cell_below hb3 hHeld.2.2.1, pw_cell_below hb3 hHeld.2.2.2.1, pw_cell_below hb3 hHeld.2.2.2.2⟩ (fun hHeld => ?_)
                  clear hK K
                  refine norm_ (a' := ?_) ?_ ?_
                  rotate_left
                  · show Act.put _ (some 66) _ = _
                    simp only [Act.put, List.setIfInBounds_toArray, List.set_cons_zero, List.set_cons_succ, i64_w, i32_w]
                    rfl
                  have hsz9 : (wr.drew.alloc (Obj.cells #[.int .i64 q] 3)).heap.size = wr.drew.heap.size + 1 := by simp
                  have hc := HCONT.out (v3, wr.drew.heap.size) _ ⟨Kd.R_lower ho3 (by omega), (hb3.block wr.drew.heap.size (by omega)).trans (heap_alloc_new wr.drew _), below_step HB9.out hb3, by have := hb3.size; omega, Nat.le_refl _⟩
                  simp only [putAll, Act.put, List.setIfInBounds_toArray, List.set_cons_zero, List.set_cons_succ, i64_w, i32_w] at hc
                  exact hc
              case hcont_ =>
                rintro ⟨v3, g3⟩ w3 ⟨ho3, hg3, hb3, hlt3, hle3⟩
                refine norm_ (a' := ?_) ?_ ?_
                rotate_left
                · show putAll _ [(66, v3), (68, .slice (some ⟨g3, 0, none⟩) 1 1)] = _
                  simp only [putAll, Act.put, List.setIfInBounds_toArray, List.set_cons_zero, List.set_cons_succ, i64_w, i32_w]
                  rfl
                have hHeld : w3.cell? ⟨w.heap.size, 0, none⟩ = some (.slice Av b'.length cv) ∧ w3.cell? ⟨w.heap.size, 1, none⟩ = some (.int .i64 bc') ∧ w3.cell? ⟨w.heap.size, 2, none⟩ = some (.bool bf') ∧ w3.cell? (ad.add s.length) = some (.int .i64 (rd p (s.length : Int))) ∧ w3.cell? (adg.add s.length) = some (.slice Ag0 (rd_L1 g (s.length : Int)).length cg0) := ⟨pw_cell_below hb3 (show wr.drew.cell? _ = _ from hc0), pw_cell_below hb3 (show wr.drew.cell? _ = _ from hc1), pw_cell_below hb3 (show wr.drew.cell? _ = _ from hc2), pw_cell_below hb3 (show wr.drew.cell? _ = _ from hx), pw_cell_below hb3 (show wr.drew.cell? _ = _ from hxg)⟩
                refine one_ (i := 16) (N := some 69) #[true, true, true, true, true, true, true, true, true, true, true, true, true, true, true, true, true, true, true, true, true, true, true, true, true, false, false, true, false, false] rfl rfl (one_of HT_.out (by kernel_rfl)) (by decide) (fun K hK => ?_)
                have HOWN := Aside0.mk (Kd.own_of_R (h1 := fun _ => rfl) ho3)
                obtain ⟨i0, hi0, hz0, hz1, hz2⟩ := info_parts info3
                refine step_append_lies w3 rfl (.tmp 66) (.tmp 68) 23 (by rfl) wr.drew.heap.size 3 i0 (.int .i64 0) 1 8 Try.underlying23 hi0 hz0 hz1 hz2 rfl (by decide) v3 y.length _ (by rfl) HOWN.out ⟨g3, 0, none⟩ 1 1 [.int .i64 q] (by rfl) rfl (World.news_of_block hg3) (by simp [Value.oneCell']) (by decide) (by unfold maxLen; omega) (by omega) hb3.size w3.heap.size rfl ?_
                intro g4 cap4 w4 hown4 hg4 hat4 hlt4
                obtain ⟨v4, hv4⟩ : ∃ v4 : Value, v4 = .slice (some ⟨g4, 0, none⟩) (y.length + 1) cap4 := ⟨_, rfl⟩
                rw [← hv4] at hown4 ⊢
                have ho4 : Kd.R (Kd.int .i64) 3 w4 wr.drew.heap.size (fun _ => True) v4 (y ++ [q]) := Kd.R_of_own (h1 := fun _ => rfl) (by simpa [encs] using hown4) (fun _ _ => trivial)
                have hb4 : Below wr.drew.heap.size wr.drew w4 := pw_below_grown hb3 _ hb3.size hg4 (fun q_ hq => Kd.R_base ho3 q_ hq)
                refine hK.out _ _ ⟨pw_cell_below hb4 (show wr.drew.cell? _ = _ from hc0), pw_cell_below hb4 (show wr.drew.cell? _ = _ from hc1), pw_cell_below hb4 (show wr.drew.cell? _ = _ from hc2), pw_cell_below hb4 (show wr.drew.cell? _ = _ from hx), pw_cell_below hb4 (show wr.drew.cell? _ = _ from hxg)⟩ (fun hHeld => ?_)
                clear hK K
                refine norm_ (a' := ?_) ?_ ?_
                rotate_left
                · show Act.put _ (some 69) _ = _
                  simp only [Act.put, List.setIfInBounds_toArray, List.set_cons_zero, List.set_cons_succ, i64_w, i32_w]
                  rfl
                have KB4 := Aside0.mk (below_step (below_drew1 KB.out) hb4)
                refine one_ (i := 25) (N := some 78) #[true, true, true, true, true, true, true, true, true, true, true, true, true, true, true, true, true, true, true, true, true, true, true, true, true, true, false, true, false, false] rfl rfl (one_of HT_.out (by kernel_rfl)) (by decide) (fun K hK => ?_)
                refine goes_ Try.func40 (by kernel_rfl) rfl #[.slice Ag0 (rd_L1 g (s.length : Int)).length cg0, .int .i64 o, .int .i64 u, .int .i64 q] (by rfl) rfl rfl (by (try simp only [List.map_toArray, List.map_cons, List.map_nil]); first | done | rfl) ?_
                with_reducible refine (spec_l5Cost.calls kk _ _ (rd_L1 g (s.length : Int)) o u q t _ (Kd.C_below (Kd.C_drew HGR.out) hb4) HGC.out HT.out).mono ?_
                rintro e w5 ⟨rfl, ⟨nd, rfl⟩⟩
                refine ⟨_, rfl, ?_⟩
                refine hK.out _ _ ⟨pw_cell_below hb4 (show wr.drew.cell? _ = _ from hc0), pw_cell_below hb4 (show wr.drew.cell? _ = _ from hc1), pw_cell_below hb4 (show wr.drew.cell? _ = _ from hc2), pw_cell_below hb4 (show wr.drew.cell? _ = _ from hx), pw_cell_below hb4 (show wr.drew.cell? _ = _ from hxg)⟩ (fun hHeld => ?_)
                clear hK K
                refine norm_ (a' := ?_) ?_ ?_
                rotate_left
                · show Act.put _ (some 78) _ = _
                  simp only [Act.put, List.setIfInBounds_toArray, List.set_cons_zero, List.set_cons_succ, i64_w, i32_w]
                  rfl
                refine pure_ (i := 26) (N := some 79) (v := ?_) (a' := ?_) #[true, true, true, true, true, true, true, true, true, true, true, true, true, true, true, true, true, true, true, true, true, true, true, true, true, true, true, true, false, false] rfl rfl (any_of HT_.out (by kernel_rfl)) (fun _ _ _ h => h) (Or.inl ⟨by rfl, ?_⟩) ?_ ?_
                rotate_left
                · intro w'
                  go_simp
                  with_reducible rfl
                rotate_left
                · simp only [Act.put, List.setIfInBounds_toArray, List.set_cons_zero, List.set_cons_succ, i64_w, i32_w]
                  rfl
                refine one_ (i := 28) (N := some 81) #[true, true, true, true, true, true, true, true, true, true, true, true, true, true, true, true, true, true, true, true, true, true, true, true, true, true, true, true, true, false] rfl rfl (one_of HT_.out (by kernel_rfl)) (by decide) (fun K hK => ?_)
                have hsz4 := hb4.size
                have hszw := SZ.out
                have RB := Aside0.mk (show Kd.R (Kd.int .i64) 3 w4 B ok' (.slice Av b'.length cv) b' from Kd.R_step (Kd.R_drew R0.out) (fun k_ _ hlt => hb4.block k_ hlt))
                have RS := Aside0.mk (show Kd.R (Kd.int .i64) 3 w4 B ok' (.slice As s.length cs) s from Kd.R_step (Kd.R_drew R1.out) (fun k_ _ hlt => hb4.block k_ hlt))
                have hBw : B ≤ wr.drew.heap.size := by show B ≤ wr.heap.size; have := HBB.out; omega
                have hw4 : w.heap.size + 2 ≤ w4.heap.size := Nat.le_trans (show w.heap.size + 2 ≤ wr.drew.heap.size from hszw) hsz4
                have RY := Aside0.mk (show Kd.R (Kd.int .i64) 3 w4 B ok' v4 (y ++ [q]) from Kd.R_lower (Kd.R_mono (Kd.R_bound ho4) (fun k_ hk => by have h1 : wr.drew.heap.size ≤ k_ := hk.2.1; have h2 : w.heap.size + 2 ≤ k_ := Nat.le_trans hszw h1; rw [HOK'.out]; exact ⟨HOK.out k_ (by omega), by omega, by omega⟩)) hBw)
                refine goes_ Try.func52 (by kernel_rfl) rfl #[.slice (some adg) g.length cg, .int .i64 o, .int .i64 u, .slice (some ad) p.length cp, .int .i64 (wrap64 (left - wrap64 (q * rd p (s.length : Int)))), v4, .int .i64 (wrap64 (cost + t)), .agg #[.slice Av b'.length cv, .int .i64 bc', .bool bf']] (by rfl) rfl rfl (by (try simp only [List.map_toArray, List.map_cons, List.map_nil]); first | done | rfl) ?_
                refine (HIH.out kk (by have := HK.out; have := HKN.out; omega) g p _ _ cg cp o u _ _ bc' bf' (y ++ [q]) b' v4 _ b1 b2 b3 _ B ok' (by show B ≤ w4.heap.size; omega) (fun k_ hk => by have h2 : w4.heap.size ≤ k_ := hk; rw [HOK'.out]; exact ⟨HOK.out k_ (by omega), by omega, by omega⟩) (Kd.C_drewN (Kd.C_below HRG.out KB4.out) _) HCG.out (Kd.C_drewN (Kd.C_below HRP.out KB4.out) _) HCP.out (Kd.R_drewN RY.out _) (Kd.R_drewN RB.out _) HF.out).mono ?_
                rintro e w6 ⟨v6, rfl, ho6, hb6⟩
                obtain ⟨Av6, cv6, rfl⟩ := Kd.R_slice ho6
                refine ⟨_, rfl, ?_⟩
                refine hK.out _ _ ⟨pw_cell_below hb6 (hHeld.1), pw_cell_below hb6 (hHeld.2.1), pw_cell_below hb6 (hHeld.2.2.1), pw_cell_below hb6 (hHeld.2.2.2.1), pw_cell_below hb6 (hHeld.2.2.2.2)⟩ (fun hHeld => ?_)
                clear hK K
                refine norm_ (a' := ?_) ?_ ?_
                rotate_left
                · show Act.put _ (some 81) _ = _
                  simp only [Act.put, List.setIfInBounds_toArray, List.set_cons_zero, List.set_cons_succ, i64_w, i32_w]
                  rfl
                have W06 := Aside0.mk ((hb6.block w.heap.size (by show w.heap.size < w4.heap.size; omega)).trans ((hb4.block w.heap.size (by show w.heap.size < wr.heap.size; omega)).trans W0.out))
                have W16 := Aside0.mk ((hb6.block (w.heap.size + 1) (by show w.heap.size + 1 < w4.heap.size; omega)).trans ((hb4.block (w.heap.size + 1) (by show w.heap.size + 1 < wr.heap.size; omega)).trans W1.out))
                have KB6 := Aside0.mk (below_step (pw_below_drewN KB4.out nd) hb6)
                have hk0 := (blk_cell W06.out 0).trans (show _ = some (.slice Av b'.length cv : Value) from rfl)
                have hz0 := blk_frozen W06.out 0
                have hk1 := (blk_cell W06.out 1).trans (show _ = some (.int .i64 bc' : Value) from rfl)
                have hz1 := blk_frozen W06.out 1
                have hk2 := (blk_cell W06.out 2).trans (show _ = some (.bool bf' : Value) from rfl)
                have hz2 := blk_frozen W06.out 2
                clear hc0 hc1 hc2 hd0 hd1 hd2 hf0 hf1 hf2 hg0 hg1 hg2
                refine last_ (i := 29) (N := none) #[true, true, true, true, true, true, true, true, true, true, true, true, true, true, true, true, true, true, true, true, true, true, true, true, true, true, true, true, true, true] rfl rfl (one_of HT_.out (by kernel_rfl)) (by decide) (fun K hK => ?_)
                refine skip_ (w1 := ?_) (by rfl) rfl ?_ ?_
                rotate_left
                · go_simp
                  rfl
                refine hK.out _ _ ?_
                clear hK K
                refine done_ (done_of HT_.out (by kernel_rfl)) ?_
                go_wp2_with fail
                have FR : Fr w6 (((w6.setCell { block := w.heap.size, off := 0 } (Value.slice Av6 b1.length cv6)).setCell { block := w.heap.size, off := 1 } (Value.int IntKind.i64 b2)).setCell { block := w.heap.size, off := 2 } (Value.bool b3)) w.heap.size (w.heap.size + 1) := Fr.set (Fr.set (Fr.set ⟨Nat.le_refl _, fun _ _ _ => rfl⟩ 0 _) 1 _) 2 _
                have hsz6 : w4.heap.size ≤ w6.heap.size := hb6.size
                have RS6 := Aside0.mk (Kd.R_below (Kd.R_drewN RS.out nd) hb6)
                have hq1 : wrap64 (q + 1) = q + 1 := by have := HK.out; unfold wrap64; omega
                go_roundg kk
                case measure => have := HK.out; omega
                case rel => exact ⟨wrap64 (q + 1), kk, b1, b2, b3, _, (by first | rfl | (simp; done)), ⟨by have := HK.out; rw [hq1]; omega⟩, HLN, ⟨blk_put (blk_put (blk_put W06.out 0 _ rfl) 1 _ rfl) 2 _ rfl⟩, ⟨Fr.blk W16.out FR (Or.inr (Nat.le_refl _))⟩, ⟨Kd.R_step ho6 (fun k_ hk hlt => FR.2 k_ hlt (by rw [HOK'.out] at hk; have := hk.2.1; omega))⟩, ⟨Kd.R_step RS6.out (fun k_ hk hlt => FR.2 k_ hlt (by rw [HOK'.out] at hk; have := hk.2.1; omega))⟩, ⟨below_set (below_set (below_set KB6.out (Nat.le_refl _)) (Nat.le_refl _)) (Nat.le_refl _)⟩, ⟨by have := FR.1; omega⟩⟩
            · rw [if_neg c4] at hl
              have c4b : decide (wrap64 (q * rd p (s.length : Int)) ≤ left) = false := decide_eq_false c4
              simp only [Option.some.injEq, Prod.mk.injEq] at hl
              obtain ⟨rfl, rfl, rfl⟩ := hl
              go_wp2_with fail
              (try simp only [Exit.inBlock, Exit.then])
              refine bodyPost_ret (results_cell_row rfl _ _ (w.heap.size + 1) 62 #[.slice Av b'.length cv, .int .i64 bc', .bool bf'] (0, 0) _ rfl (blk_put (blk_put (blk_put W1.out 0 _ rfl) 1 _ rfl) 2 _ rfl) Try.underlying62 rfl (by kernel_rfl)) rfl ?_
              have FR : Fr wr (((wr.setCell { block := w.heap.size + 1, off := 0 } (Value.slice Av b'.length cv)).setCell { block := w.heap.size + 1, off := 1 } (Value.int IntKind.i64 bc')).setCell { block := w.heap.size + 1, off := 2 } (Value.bool bf')) (w.heap.size + 1) (w.heap.size + 1 + 1) := Fr.set (Fr.set (Fr.set ⟨Nat.le_refl _, fun _ _ _ => rfl⟩ 0 _) 1 _) 2 _
              exact ⟨_, rfl, Kd.R_mono (Kd.R_step R0.out (fun k_ hk hlt => FR.2 k_ hlt (by rw [HOK'.out] at hk; have := hk.2.2; omega))) (fun k_ hk => by rw [HOK'.out] at hk; exact hk.1), below_set (below_set (below_set KB.out (Nat.le_succ _)) (Nat.le_succ _)) (Nat.le_succ _)⟩
          · rw [if_neg c3] at hl; exact absurd hl (by simp)
        · rw [if_neg c2] at hl
          have c2b : decide (q ≤ 15) = false := decide_eq_false c2
          simp only [Option.some.injEq, Prod.mk.injEq] at hl
          obtain ⟨rfl, rfl, rfl⟩ := hl
          go_wp2_with fail
          (try simp only [Exit.inBlock, Exit.then])
          refine bodyPost_ret (results_cell_row rfl _ _ (w.heap.size + 1) 62 #[.slice Av b'.length cv, .int .i64 bc', .bool bf'] (0, 0) _ rfl (blk_put (blk_put (blk_put W1.out 0 _ rfl) 1 _ rfl) 2 _ rfl) Try.underlying62 rfl (by kernel_rfl)) rfl ?_
          have FR : Fr wr (((wr.setCell { block := w.heap.size + 1, off := 0 } (Value.slice Av b'.length cv)).setCell { block := w.heap.size + 1, off := 1 } (Value.int IntKind.i64 bc')).setCell { block := w.heap.size + 1, off := 2 } (Value.bool bf')) (w.heap.size + 1) (w.heap.size + 1 + 1) := Fr.set (Fr.set (Fr.set ⟨Nat.le_refl _, fun _ _ _ => rfl⟩ 0 _) 1 _) 2 _
          exact ⟨_, rfl, Kd.R_mono (Kd.R_step R0.out (fun k_ hk hlt => FR.2 k_ hlt (by rw [HOK'.out] at hk; have := hk.2.2; omega))) (fun k_ hk => by rw [HOK'.out] at hk; exact hk.1), below_set (below_set (below_set KB.out (Nat.le_succ _)) (Nat.le_succ _)) (Nat.le_succ _)⟩
end Go.Proofs.Ytnojmhcmngejnaa.PFnExactBudgetOrders
