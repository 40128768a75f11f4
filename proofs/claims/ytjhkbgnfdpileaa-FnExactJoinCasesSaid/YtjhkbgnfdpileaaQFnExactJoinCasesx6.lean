/- impl.JoinCases answers as impl_JoinCases.f does, within the rounds. Conditions: the arguments' rows are there. -/
import Derived.Test.YtjhkbgnfdpileaaQFnExactJoinCasesx5
namespace Go.Proofs.Ytjhkbgnfdpileaa.PFnExactJoinCases
open Go.RowKit Go.Proofs.YtjhkbgnfdpileaaW.PrintWords Go.Proofs.YtjhkbgnfdpileaaW.PrintLast Go.Proofs.YtjhkbgnfdpileaaW.PrintMore Go.Proofs.Ytjhkbgnfdpileaa.Hold
set_option linter.unusedVariables false
set_option linter.unusedSimpArgs false
def impl_JoinCases.f (k : Nat) (l0_0 : List Int) (l0_1 : List Int) (l0_2 : List Int) (l0_3 : List Int) (l1_0 : List Int) (l1_1 : List Int) (l1_2 : List Int) (l1_3 : List Int) : Option (List Int × List Int × List Int × List Int × Bool) := (impl_IsCase.f k l0_0 l0_1 l0_2 l0_3).bind fun t1 => (if t1 = true then ((impl_IsCase.f k l1_0 l1_1 l1_2 l1_3).bind fun t2 => (if t2 = true then (if (l0_0.length : Int) + (l1_0.length : Int) > 8 then (some (([] : List Int), ([] : List Int), ([] : List Int), ([] : List Int), false)) else (some (l0_0 ++ l1_0, l0_1 ++ l1_1, l0_2 ++ l1_2, l0_3 ++ l1_3, true))) else (some (([] : List Int), ([] : List Int), ([] : List Int), ([] : List Int), false)))) else (some (([] : List Int), ([] : List Int), ([] : List Int), ([] : List Int), false)))
theorem Cat.len {k : Nat} {a b c d : List Int} (h : impl_IsCase.f k a b c d = some true) : a.length ≤ 8 ∧ b.length = a.length ∧ c.length = a.length ∧ d.length = a.length := by
  unfold impl_IsCase.f at h
  by_cases c1 : (a.length : Int) ≤ 8
  · rw [if_pos c1] at h
    by_cases c2 : (b.length : Int) = (a.length : Int)
    · rw [if_pos c2] at h
      by_cases c3 : (c.length : Int) = (a.length : Int)
      · rw [if_pos c3] at h
        by_cases c4 : (d.length : Int) = (a.length : Int)
        · omega
        · rw [if_neg c4] at h; exact absurd h (by simp)
      · rw [if_neg c3] at h; exact absurd h (by simp)
    · rw [if_neg c2] at h; exact absurd h (by simp)
  · rw [if_neg c1] at h; exact absurd h (by simp)
theorem Cat.box3 (w : World) (o1 o2 o3 : Obj) : (((w.alloc o1).alloc o2).alloc o3).heap[w.heap.size]? = some o1 ∧ (((w.alloc o1).alloc o2).alloc o3).heap[w.heap.size + 1]? = some o2 ∧ (((w.alloc o1).alloc o2).alloc o3).heap[w.heap.size + 2]? = some o3 ∧ (((w.alloc o1).alloc o2).alloc o3).heap.size = w.heap.size + 3 ∧ Below w.heap.size w (((w.alloc o1).alloc o2).alloc o3) := by
  refine ⟨?_, ?_, ?_, by simp, below_alloc (below_alloc (below_alloc (Below.refl _ _) _) _) _⟩
  · rw [Go.heap_alloc_old _ _ (by simp; omega)]; exact heap_alloc2_old w o1 o2
  · rw [Go.heap_alloc_old _ _ (by simp)]; exact heap_alloc2_new w o1 o2
  · have := Go.heap_alloc_new ((w.alloc o1).alloc o2) o3; simpa using this
theorem Cat.bt {W W' : World} {g : Nat} {x y : Value} (h : W.heap[g]? = some (.cells #[x, y] 22 (0, 0))) (hb : Below W.heap.size W W') : W'.heap[g]? = some (.cells #[x, y] 22 (0, 0)) := (hb.block g (blk_lt h)).trans h
theorem Cat.dn {W W' : World} {B a b : Nat} {v : Value} {xs : List Int} (h : Hd (Kd.int .i64) 3 W B a b v xs) (hb : Below W.heap.size W W') : Hd (Kd.int .i64) 3 W' B a b v xs := Hd.move h (Fr.of_below hb) (.inr (Nat.zero_le _))
theorem Cat.new {W W' : World} {B a : Nat} {v : Value} {xs : List Int} (h : Kd.R (Kd.int .i64) 3 W' W.heap.size (fun _ => True) v xs) (hB : B ≤ W.heap.size) (ha : a ≤ W.heap.size) : Hd (Kd.int .i64) 3 W' B a W'.heap.size v xs :=
  Kd.R_lower (Kd.R_mono (Kd.R_bound h) (fun k hk => ⟨Nat.le_trans ha hk.2.1, hk.2.2.1⟩)) hB
def impl_JoinCases.T3 : Bool × List (List Nat × List Nat) := (true, [([], []), ([0], [0]), ([], []), ([2], [2]), ([1, 3], [1, 3]), ([4], [4]), ([], []), ([6], [6]), ([], []), ([8], [8]), ([7, 9], [7, 9]), ([10, 5], [10]), ([], []), ([12], [12]), ([], []), ([14], [14]), ([13, 15], [13, 15]), ([16, 11], [16]), ([], []), ([18], [18]), ([], []), ([20], [20]), ([19, 21], [19, 21]), ([22, 17], [22]), ([5, 11, 17, 23], [5, 11, 17, 23]), ([24, 23, 0, 1, 2, 3, 4, 5, 6, 7, 8, 9, 10, 11, 12, 13, 14, 15, 16, 17, 18, 19, 20, 21, 22, 23, 24], [24]), ([25, 0, 1, 2, 3, 4, 5, 6, 7, 8, 9, 10, 11, 12, 13, 14, 15, 16, 17, 18, 19, 20, 21, 22, 23, 24, 25], [])])
def impl_JoinCases.B3 : List Nat := [0, 1, 0, 4, 15, 31, 0, 64, 0, 256, 960, 2047, 0, 4096, 0, 16384, 61440, 131071, 0, 262144, 0, 1048576, 3932160, 8388607, 16777215, 33554431, 67108863]
theorem impl_JoinCases.tab3 : rtab .any (opsOf Try.f13 3) = impl_JoinCases.T3 := by kernel_rfl
theorem impl_JoinCases.bits3 : waitsOk impl_JoinCases.T3.2 impl_JoinCases.B3 = true := by kernel_rfl
set_option maxHeartbeats 8000000 in
set_option maxRecDepth 100000 in
theorem impl_JoinCases.calls (k : Nat) (A0_0 : Option Addr) (c0_0 : Nat) (l0_0 : List Int) (A0_1 : Option Addr) (c0_1 : Nat) (l0_1 : List Int) (A0_2 : Option Addr) (c0_2 : Nat) (l0_2 : List Int) (A0_3 : Option Addr) (c0_3 : Nat) (l0_3 : List Int) (A1_0 : Option Addr) (c1_0 : Nat) (l1_0 : List Int) (A1_1 : Option Addr) (c1_1 : Nat) (l1_1 : List Int) (A1_2 : Option Addr) (c1_2 : Nat) (l1_2 : List Int) (A1_3 : Option Addr) (c1_3 : Nat) (l1_3 : List Int) (r1 r2 r3 r4 : List Int) (r5 : Bool) (w : World) (hr0_0 : Kd.C (Kd.int .i64) w A0_0 l0_0.length l0_0) (hc0_0 : l0_0.length ≤ c0_0) (hr0_1 : Kd.C (Kd.int .i64) w A0_1 l0_1.length l0_1) (hc0_1 : l0_1.length ≤ c0_1) (hr0_2 : Kd.C (Kd.int .i64) w A0_2 l0_2.length l0_2) (hc0_2 : l0_2.length ≤ c0_2) (hr0_3 : Kd.C (Kd.int .i64) w A0_3 l0_3.length l0_3) (hc0_3 : l0_3.length ≤ c0_3) (hr1_0 : Kd.C (Kd.int .i64) w A1_0 l1_0.length l1_0) (hc1_0 : l1_0.length ≤ c1_0) (hr1_1 : Kd.C (Kd.int .i64) w A1_1 l1_1.length l1_1) (hc1_1 : l1_1.length ≤ c1_1) (hr1_2 : Kd.C (Kd.int .i64) w A1_2 l1_2.length l1_2) (hc1_2 : l1_2.length ≤ c1_2) (hr1_3 : Kd.C (Kd.int .i64) w A1_3 l1_3.length l1_3) (hc1_3 : l1_3.length ≤ c1_3) (h : impl_JoinCases.f k l0_0 l0_1 l0_2 l0_3 l1_0 l1_1 l1_2 l1_3 = some (r1, r2, r3, r4, r5)) :
    Calls Try.prog 13 #[.agg #[.slice A0_0 l0_0.length c0_0, .slice A0_1 l0_1.length c0_1, .slice A0_2 l0_2.length c0_2, .slice A0_3 l0_3.length c0_3], .agg #[.slice A1_0 l1_0.length c1_0, .slice A1_1 l1_1.length c1_1, .slice A1_2 l1_2.length c1_2, .slice A1_3 l1_3.length c1_3]] w fun e w' => ∃ v0_ v1_ v2_ v3_ : Value, e = .returned (.tuple #[.agg #[v0_, v1_, v2_, v3_], .bool r5]) ∧ Kd.R (Kd.int .i64) 3 w' w.heap.size (fun k_ => some k_ ≠ (v1_ : Value).ownBlock ∧ some k_ ≠ (v2_ : Value).ownBlock ∧ some k_ ≠ (v3_ : Value).ownBlock) v0_ r1 ∧ Kd.R (Kd.int .i64) 3 w' w.heap.size (fun k_ => some k_ ≠ (v0_ : Value).ownBlock ∧ some k_ ≠ (v2_ : Value).ownBlock ∧ some k_ ≠ (v3_ : Value).ownBlock) v1_ r2 ∧ Kd.R (Kd.int .i64) 3 w' w.heap.size (fun k_ => some k_ ≠ (v0_ : Value).ownBlock ∧ some k_ ≠ (v1_ : Value).ownBlock ∧ some k_ ≠ (v3_ : Value).ownBlock) v2_ r3 ∧ Kd.R (Kd.int .i64) 3 w' w.heap.size (fun k_ => some k_ ≠ (v0_ : Value).ownBlock ∧ some k_ ≠ (v1_ : Value).ownBlock ∧ some k_ ≠ (v2_ : Value).ownBlock) v3_ r4 ∧ Below w.heap.size w w' := by
  have HR0_0 := Aside0.mk hr0_0
  have HC0_0 := Aside0.mk hc0_0
  have HR0_1 := Aside0.mk hr0_1
  have HC0_1 := Aside0.mk hc0_1
  have HR0_2 := Aside0.mk hr0_2
  have HC0_2 := Aside0.mk hc0_2
  have HR0_3 := Aside0.mk hr0_3
  have HC0_3 := Aside0.mk hc0_3
  have HR1_0 := Aside0.mk hr1_0
  have HC1_0 := Aside0.mk hc1_0
  have HR1_1 := Aside0.mk hr1_1
  have HC1_1 := Aside0.mk hc1_1
  have HR1_2 := Aside0.mk hr1_2
  have HC1_2 := Aside0.mk hc1_2
  have HR1_3 := Aside0.mk hr1_3
  have HC1_3 := Aside0.mk hc1_3
  clear hr0_0 hc0_0 hr0_1 hc0_1 hr0_2 hc0_2 hr0_3 hc0_3 hr1_0 hc1_0 hr1_1 hc1_1 hr1_2 hc1_2 hr1_3 hc1_3
  have hu26 := Try.underlying26
  simp only [impl_JoinCases.f] at h
  obtain ⟨t1, ht1, h⟩ := Option.bind_eq_some_iff.mp h
  have HT1 := Aside0.mk ht1
  have HH := Aside0.mk h
  clear ht1 h
  go_enter Try.func13, Try.ntmps13
  go_wp2_with fail
  have BX := Aside0.mk (Cat.box3 w (Obj.cells #[.slice A0_0 l0_0.length c0_0, .slice A0_1 l0_1.length c0_1, .slice A0_2 l0_2.length c0_2, .slice A0_3 l0_3.length c0_3] 26) (Obj.cells #[.slice A1_0 l1_0.length c1_0, .slice A1_1 l1_1.length c1_1, .slice A1_2 l1_2.length c1_2, .slice A1_3 l1_3.length c1_3] 26) (Obj.cells #[Value.slice none 0 0, Value.slice none 0 0, Value.slice none 0 0, Value.slice none 0 0] 26))
  generalize ((w.alloc (Obj.cells #[.slice A0_0 l0_0.length c0_0, .slice A0_1 l0_1.length c0_1, .slice A0_2 l0_2.length c0_2, .slice A0_3 l0_3.length c0_3] 26)).alloc (Obj.cells #[.slice A1_0 l1_0.length c1_0, .slice A1_1 l1_1.length c1_1, .slice A1_2 l1_2.length c1_2, .slice A1_3 l1_3.length c1_3] 26)).alloc (Obj.cells #[Value.slice none 0 0, Value.slice none 0 0, Value.slice none 0 0, Value.slice none 0 0] 26) = w1 at BX ⊢
  rw [show w.heap.size + 1 + 1 = w.heap.size + 2 from rfl]
  have HB1 := Aside0.mk BX.out.2.2.2.2
  refine (impl_IsCase.calls k A0_0 c0_0 l0_0 A0_1 c0_1 l0_1 A0_2 c0_2 l0_2 A0_3 c0_3 l0_3 t1 w1 (Kd.C_below HR0_0.out HB1.out) HC0_0.out (Kd.C_below HR0_1.out HB1.out) HC0_1.out (Kd.C_below HR0_2.out HB1.out) HC0_2.out (Kd.C_below HR0_3.out HB1.out) HC0_3.out HT1.out).mono ?_
  rintro e w2 ⟨rfl, hb2⟩
  have hz2 := BX.out.2.2.2.1
  have HB2 := Aside0.mk (below_step HB1.out hb2)
  have X0 := Aside0.mk ((hb2.block (w.heap.size) (by omega)).trans BX.out.1)
  have X1 := Aside0.mk ((hb2.block (w.heap.size + 1) (by omega)).trans BX.out.2.1)
  have X2 := Aside0.mk ((hb2.block (w.heap.size + 2) (by omega)).trans BX.out.2.2.1)
  have SZ2 := Aside0.mk (show w.heap.size + 3 ≤ w2.heap.size from by have := hb2.size; omega)
  clear hb2 hz2 BX HB1
  have ha0 := (blk_cell X0.out 0).trans (show _ = some (.slice A0_0 l0_0.length c0_0 : Value) from rfl)
  have hb0 := (blk_cell X1.out 0).trans (show _ = some (.slice A1_0 l1_0.length c1_0 : Value) from rfl)
  have hd0 := (blk_cell X2.out 0).trans (show _ = some (.slice none 0 0 : Value) from rfl)
  have hg0 := blk_frozen X2.out 0
  have ha1 := (blk_cell X0.out 1).trans (show _ = some (.slice A0_1 l0_1.length c0_1 : Value) from rfl)
  have hb1 := (blk_cell X1.out 1).trans (show _ = some (.slice A1_1 l1_1.length c1_1 : Value) from rfl)
  have hd1 := (blk_cell X2.out 1).trans (show _ = some (.slice none 0 0 : Value) from rfl)
  have hg1 := blk_frozen X2.out 1
  have ha2 := (blk_cell X0.out 2).trans (show _ = some (.slice A0_2 l0_2.length c0_2 : Value) from rfl)
  have hb2 := (blk_cell X1.out 2).trans (show _ = some (.slice A1_2 l1_2.length c1_2 : Value) from rfl)
  have hd2 := (blk_cell X2.out 2).trans (show _ = some (.slice none 0 0 : Value) from rfl)
  have hg2 := blk_frozen X2.out 2
  have ha3 := (blk_cell X0.out 3).trans (show _ = some (.slice A0_3 l0_3.length c0_3 : Value) from rfl)
  have hb3 := (blk_cell X1.out 3).trans (show _ = some (.slice A1_3 l1_3.length c1_3 : Value) from rfl)
  have hd3 := (blk_cell X2.out 3).trans (show _ = some (.slice none 0 0 : Value) from rfl)
  have hg3 := blk_frozen X2.out 3
  have h := HH.out
  clear HH
  cases t1 with
  | false =>
    rw [if_neg (by decide)] at h
    simp only [Option.some.injEq, Prod.mk.injEq] at h
    obtain ⟨rfl, rfl, rfl, rfl, rfl⟩ := h
    go_wp2_with fail
    (try simp only [Exit.inBlock, Exit.then])
    refine bodyPost_ret (results_ct rfl _ _ (w.heap.size + 2) 26 #[.slice none 0 0, .slice none 0 0, .slice none 0 0, .slice none 0 0] (0, 0) _ rfl (blk_put (blk_put (blk_put (blk_put X2.out 0 _ rfl) 1 _ rfl) 2 _ rfl) 3 _ rfl) Try.underlying26 rfl (by kernel_rfl)) rfl ?_
    exact ⟨_, _, _, _, rfl, Kd.R_nil _ _ _ _ _, Kd.R_nil _ _ _ _ _, Kd.R_nil _ _ _ _ _, Kd.R_nil _ _ _ _ _, below_set (below_set (below_set (below_set HB2.out (by omega)) (by omega)) (by omega)) (by omega)⟩
  | true =>
    rw [if_pos rfl] at h
    obtain ⟨t2, ht2, h⟩ := Option.bind_eq_some_iff.mp h
    have HT2 := Aside0.mk ht2
    clear ht2
    have L1 := Aside0.mk (Cat.len HT1.out)
    have KC2 := Aside0.mk (impl_IsCase.calls k A1_0 c1_0 l1_0 A1_1 c1_1 l1_1 A1_2 c1_2 l1_2 A1_3 c1_3 l1_3 t2 w2 (Kd.C_below HR1_0.out HB2.out) HC1_0.out (Kd.C_below HR1_1.out HB2.out) HC1_1.out (Kd.C_below HR1_2.out HB2.out) HC1_2.out (Kd.C_below HR1_3.out HB2.out) HC1_3.out HT2.out)
    go_wp2_with fail
    refine KC2.out.mono ?_
    rintro e w3 ⟨rfl, hb3⟩
    have HB3 := Aside0.mk (below_step HB2.out hb3)
    have hz2 := SZ2.out
    have Y0 := Aside0.mk ((hb3.block (w.heap.size) (by omega)).trans X0.out)
    have Y1 := Aside0.mk ((hb3.block (w.heap.size + 1) (by omega)).trans X1.out)
    have Y2 := Aside0.mk ((hb3.block (w.heap.size + 2) (by omega)).trans X2.out)
    have SZ3 := Aside0.mk (show w.heap.size + 3 ≤ w3.heap.size from by have := hb3.size; omega)
    clear ha0 hb0 hd0 hg0 ha1 hb1 hd1 hg1 ha2 hb2 hd2 hg2 ha3 hb3 hd3 hg3
    clear X0 X1 X2 KC2
    clear hb3 hz2
    clear SZ2 HB2
    have X0 := Y0
    have X1 := Y1
    have X2 := Y2
    clear Y0 Y1 Y2
    have ha0 := (blk_cell X0.out 0).trans (show _ = some (.slice A0_0 l0_0.length c0_0 : Value) from rfl)
    have hb0 := (blk_cell X1.out 0).trans (show _ = some (.slice A1_0 l1_0.length c1_0 : Value) from rfl)
    have hd0 := (blk_cell X2.out 0).trans (show _ = some (.slice none 0 0 : Value) from rfl)
    have hg0 := blk_frozen X2.out 0
    have ha1 := (blk_cell X0.out 1).trans (show _ = some (.slice A0_1 l0_1.length c0_1 : Value) from rfl)
    have hb1 := (blk_cell X1.out 1).trans (show _ = some (.slice A1_1 l1_1.length c1_1 : Value) from rfl)
    have hd1 := (blk_cell X2.out 1).trans (show _ = some (.slice none 0 0 : Value) from rfl)
    have hg1 := blk_frozen X2.out 1
    have ha2 := (blk_cell X0.out 2).trans (show _ = some (.slice A0_2 l0_2.length c0_2 : Value) from rfl)
    have hb2 := (blk_cell X1.out 2).trans (show _ = some (.slice A1_2 l1_2.length c1_2 : Value) from rfl)
    have hd2 := (blk_cell X2.out 2).trans (show _ = some (.slice none 0 0 : Value) from rfl)
    have hg2 := blk_frozen X2.out 2
    have ha3 := (blk_cell X0.out 3).trans (show _ = some (.slice A0_3 l0_3.length c0_3 : Value) from rfl)
    have hb3 := (blk_cell X1.out 3).trans (show _ = some (.slice A1_3 l1_3.length c1_3 : Value) from rfl)
    have hd3 := (blk_cell X2.out 3).trans (show _ = some (.slice none 0 0 : Value) from rfl)
    have hg3 := blk_frozen X2.out 3
    cases t2 with
    | false =>
      rw [if_neg (by decide)] at h
      simp only [Option.some.injEq, Prod.mk.injEq] at h
      obtain ⟨rfl, rfl, rfl, rfl, rfl⟩ := h
      go_wp2_with fail
      (try simp only [Exit.inBlock, Exit.then])
      refine bodyPost_ret (results_ct rfl _ _ (w.heap.size + 2) 26 #[.slice none 0 0, .slice none 0 0, .slice none 0 0, .slice none 0 0] (0, 0) _ rfl (blk_put (blk_put (blk_put (blk_put X2.out 0 _ rfl) 1 _ rfl) 2 _ rfl) 3 _ rfl) Try.underlying26 rfl (by kernel_rfl)) rfl ?_
      exact ⟨_, _, _, _, rfl, Kd.R_nil _ _ _ _ _, Kd.R_nil _ _ _ _ _, Kd.R_nil _ _ _ _ _, Kd.R_nil _ _ _ _ _, below_set (below_set (below_set (below_set HB3.out (by omega)) (by omega)) (by omega)) (by omega)⟩
    | true =>
      rw [if_pos rfl] at h
      have L2 := Aside0.mk (Cat.len HT2.out)
      have l10 := L1.out.1
      have l20 := L2.out.1
      have m4 : IntKind.i64.wrap ((l0_0.length : Int) + (l1_0.length : Int)) = (l0_0.length : Int) + (l1_0.length : Int) := (i64_w _).trans (by unfold wrap64; omega)
      by_cases c8 : (l0_0.length : Int) + (l1_0.length : Int) > 8
      · rw [if_pos c8] at h
        have c8b : decide (8 < (l0_0.length : Int) + (l1_0.length : Int)) = true := decide_eq_true c8
        simp only [Option.some.injEq, Prod.mk.injEq] at h
        obtain ⟨rfl, rfl, rfl, rfl, rfl⟩ := h
        go_wp2_with fail
        (try simp only [Exit.inBlock, Exit.then])
        refine bodyPost_ret (results_ct rfl _ _ (w.heap.size + 2) 26 #[.slice none 0 0, .slice none 0 0, .slice none 0 0, .slice none 0 0] (0, 0) _ rfl (blk_put (blk_put (blk_put (blk_put X2.out 0 _ rfl) 1 _ rfl) 2 _ rfl) 3 _ rfl) Try.underlying26 rfl (by kernel_rfl)) rfl ?_
        exact ⟨_, _, _, _, rfl, Kd.R_nil _ _ _ _ _, Kd.R_nil _ _ _ _ _, Kd.R_nil _ _ _ _ _, Kd.R_nil _ _ _ _ _, below_set (below_set (below_set (below_set HB3.out (by omega)) (by omega)) (by omega)) (by omega)⟩
      · rw [if_neg c8] at h
        have c8b : decide (8 < (l0_0.length : Int) + (l1_0.length : Int)) = false := decide_eq_false c8
        simp only [Option.some.injEq, Prod.mk.injEq] at h
        obtain ⟨rfl, rfl, rfl, rfl, rfl⟩ := h
        go_wp2_with fail
        clear ha0 hb0 hd0 hg0 ha1 hb1 hd1 hg1 ha2 hb2 hd2 hg2 ha3 hb3 hd3 hg3
        obtain ⟨y0, hy0⟩ : ∃ y, y = l0_0 ++ l1_0 := ⟨_, rfl⟩
        have HY0 := Aside0.mk hy0
        clear hy0
        obtain ⟨y1, hy1⟩ : ∃ y, y = l0_1 ++ l1_1 := ⟨_, rfl⟩
        have HY1 := Aside0.mk hy1
        clear hy1
        obtain ⟨y2, hy2⟩ : ∃ y, y = l0_2 ++ l1_2 := ⟨_, rfl⟩
        have HY2 := Aside0.mk hy2
        clear hy2
        obtain ⟨y3, hy3⟩ : ∃ y, y = l0_3 ++ l1_3 := ⟨_, rfl⟩
        have HY3 := Aside0.mk hy3
        clear hy3
        refine start_ (n := 27) (S := fun W_ => W_.heap[w.heap.size]? = some (.cells #[.slice A0_0 l0_0.length c0_0, .slice A0_1 l0_1.length c0_1, .slice A0_2 l0_2.length c0_2, .slice A0_3 l0_3.length c0_3] 26 (0, 0)) ∧ W_.heap[w.heap.size + 1]? = some (.cells #[.slice A1_0 l1_0.length c1_0, .slice A1_1 l1_1.length c1_1, .slice A1_2 l1_2.length c1_2, .slice A1_3 l1_3.length c1_3] 26 (0, 0))) (ds := [25]) #[false, false, false, false, false, false, false, false, false, false, false, false, false, false, false, false, false, false, false, false, false, false, false, false, false, false, false] (by kernel_rfl) rfl rfl ⟨X0.out, X1.out⟩ (fun hHeld => ?_); refine with_tabW impl_JoinCases.tab3 impl_JoinCases.bits3 (fun HT_ HW_ => ?_)
        refine pure_ (i := 0) (N := some 25) (v := ?_) (a' := ?_) #[true, false, false, false, false, false, false, false, false, false, false, false, false, false, false, false, false, false, false, false, false, false, false, false, false, false, false] rfl rfl (any_of HT_.out (by kernel_rfl)) (fun _ _ _ h => h) (Or.inl ⟨by rfl, ?_⟩) ?_ ?_
        rotate_left
        · intro w'
          go_simp
          with_reducible rfl
        rotate_left
        · simp only [Act.put, List.setIfInBounds_toArray, List.set_cons_zero, List.set_cons_succ, i64_w, i32_w]
          rfl
        refine take_ (i := 1) (N := some 26) (v := ?_) (a' := ?_) #[true, true, false, false, false, false, false, false, false, false, false, false, false, false, false, false, false, false, false, false, false, false, false, false, false, false, false] rfl rfl (take_ofW HT_.out HW_.out (by kernel_rfl)) (fun _ _ _ h => h) (Or.inl ⟨by rfl, ?_⟩) hHeld ?_ ?_
        rotate_left
        · rintro w' ⟨s0, s1⟩
          have s_ := (blk_cell s0 0).trans (show _ = some (.slice A0_0 l0_0.length c0_0 : Value) from rfl)
          go_simp
          with_reducible rfl
        rotate_left
        · simp only [Act.put, List.setIfInBounds_toArray, List.set_cons_zero, List.set_cons_succ, i64_w, i32_w]
          rfl
        refine pure_ (i := 2) (N := some 27) (v := ?_) (a' := ?_) #[true, true, true, false, false, false, false, false, false, false, false, false, false, false, false, false, false, false, false, false, false, false, false, false, false, false, false] rfl rfl (any_of HT_.out (by kernel_rfl)) (fun _ _ _ h => h) (Or.inl ⟨by rfl, ?_⟩) ?_ ?_
        rotate_left
        · intro w'
          go_simp
          with_reducible rfl
        rotate_left
        · simp only [Act.put, List.setIfInBounds_toArray, List.set_cons_zero, List.set_cons_succ, i64_w, i32_w]
          rfl
        refine take_ (i := 3) (N := some 28) (v := ?_) (a' := ?_) #[true, true, true, true, false, false, false, false, false, false, false, false, false, false, false, false, false, false, false, false, false, false, false, false, false, false, false] rfl rfl (take_ofW HT_.out HW_.out (by kernel_rfl)) (fun _ _ _ h => h) (Or.inl ⟨by rfl, ?_⟩) hHeld ?_ ?_
        rotate_left
        · rintro w' ⟨s0, s1⟩
          have s_ := (blk_cell s1 0).trans (show _ = some (.slice A1_0 l1_0.length c1_0 : Value) from rfl)
          go_simp
          with_reducible rfl
        rotate_left
        · simp only [Act.put, List.setIfInBounds_toArray, List.set_cons_zero, List.set_cons_succ, i64_w, i32_w]
          rfl
        refine pure_ (i := 6) (N := some 31) (v := ?_) (a' := ?_) #[true, true, true, true, false, false, true, false, false, false, false, false, false, false, false, false, false, false, false, false, false, false, false, false, false, false, false] rfl rfl (any_of HT_.out (by kernel_rfl)) (fun _ _ _ h => h) (Or.inl ⟨by rfl, ?_⟩) ?_ ?_
        rotate_left
        · intro w'
          go_simp
          with_reducible rfl
        rotate_left
        · simp only [Act.put, List.setIfInBounds_toArray, List.set_cons_zero, List.set_cons_succ, i64_w, i32_w]
          rfl
        refine take_ (i := 7) (N := some 32) (v := ?_) (a' := ?_) #[true, true, true, true, false, false, true, true, false, false, false, false, false, false, false, false, false, false, false, false, false, false, false, false, false, false, false] rfl rfl (take_ofW HT_.out HW_.out (by kernel_rfl)) (fun _ _ _ h => h) (Or.inl ⟨by rfl, ?_⟩) hHeld ?_ ?_
        rotate_left
        · rintro w' ⟨s0, s1⟩
          have s_ := (blk_cell s0 1).trans (show _ = some (.slice A0_1 l0_1.length c0_1 : Value) from rfl)
          go_simp
          with_reducible rfl
        rotate_left
        · simp only [Act.put, List.setIfInBounds_toArray, List.set_cons_zero, List.set_cons_succ, i64_w, i32_w]
          rfl
        refine pure_ (i := 8) (N := some 33) (v := ?_) (a' := ?_) #[true, true, true, true, false, false, true, true, true, false, false, false, false, false, false, false, false, false, false, false, false, false, false, false, false, false, false] rfl rfl (any_of HT_.out (by kernel_rfl)) (fun _ _ _ h => h) (Or.inl ⟨by rfl, ?_⟩) ?_ ?_
        rotate_left
        · intro w'
          go_simp
          with_reducible rfl
        rotate_left
        · simp only [Act.put, List.setIfInBounds_toArray, List.set_cons_zero, List.set_cons_succ, i64_w, i32_w]
          rfl
        refine take_ (i := 9) (N := some 34) (v := ?_) (a' := ?_) #[true, true, true, true, false, false, true, true, true, true, false, false, false, false, false, false, false, false, false, false, false, false, false, false, false, false, false] rfl rfl (take_ofW HT_.out HW_.out (by kernel_rfl)) (fun _ _ _ h => h) (Or.inl ⟨by rfl, ?_⟩) hHeld ?_ ?_
        rotate_left
        · rintro w' ⟨s0, s1⟩
          have s_ := (blk_cell s1 1).trans (show _ = some (.slice A1_1 l1_1.length c1_1 : Value) from rfl)
          go_simp
          with_reducible rfl
        rotate_left
        · simp only [Act.put, List.setIfInBounds_toArray, List.set_cons_zero, List.set_cons_succ, i64_w, i32_w]
          rfl
        refine pure_ (i := 12) (N := some 37) (v := ?_) (a' := ?_) #[true, true, true, true, false, false, true, true, true, true, false, false, true, false, false, false, false, false, false, false, false, false, false, false, false, false, false] rfl rfl (any_of HT_.out (by kernel_rfl)) (fun _ _ _ h => h) (Or.inl ⟨by rfl, ?_⟩) ?_ ?_
        rotate_left
        · intro w'
          go_simp
          with_reducible rfl
        rotate_left
        · simp only [Act.put, List.setIfInBounds_toArray, List.set_cons_zero, List.set_cons_succ, i64_w, i32_w]
          rfl
        refine take_ (i := 13) (N := some 38) (v := ?_) (a' := ?_) #[true, true, true, true, false, false, true, true, true, true, false, false, true, true, false, false, false, false, false, false, false, false, false, false, false, false, false] rfl rfl (take_ofW HT_.out HW_.out (by kernel_rfl)) (fun _ _ _ h => h) (Or.inl ⟨by rfl, ?_⟩) hHeld ?_ ?_
        rotate_left
        · rintro w' ⟨s0, s1⟩
          have s_ := (blk_cell s0 2).trans (show _ = some (.slice A0_2 l0_2.length c0_2 : Value) from rfl)
          go_simp
          with_reducible rfl
        rotate_left
        · simp only [Act.put, List.setIfInBounds_toArray, List.set_cons_zero, List.set_cons_succ, i64_w, i32_w]
          rfl
        refine pure_ (i := 14) (N := some 39) (v := ?_) (a' := ?_) #[true, true, true, true, false, false, true, true, true, true, false, false, true, true, true, false, false, false, false, false, false, false, false, false, false, false, false] rfl rfl (any_of HT_.out (by kernel_rfl)) (fun _ _ _ h => h) (Or.inl ⟨by rfl, ?_⟩) ?_ ?_
        rotate_left
        · intro w'
          go_simp
          with_reducible rfl
        rotate_left
        · simp only [Act.put, List.setIfInBounds_toArray, List.set_cons_zero, List.set_cons_succ, i64_w, i32_w]
          rfl
        refine take_ (i := 15) (N := some 40) (v := ?_) (a' := ?_) #[true, true, true, true, false, false, true, true, true, true, false, false, true, true, true, true, false, false, false, false, false, false, false, false, false, false, false] rfl rfl (take_ofW HT_.out HW_.out (by kernel_rfl)) (fun _ _ _ h => h) (Or.inl ⟨by rfl, ?_⟩) hHeld ?_ ?_
        rotate_left
        · rintro w' ⟨s0, s1⟩
          have s_ := (blk_cell s1 2).trans (show _ = some (.slice A1_2 l1_2.length c1_2 : Value) from rfl)
          go_simp
          with_reducible rfl
        rotate_left
        · simp only [Act.put, List.setIfInBounds_toArray, List.set_cons_zero, List.set_cons_succ, i64_w, i32_w]
          rfl
        refine pure_ (i := 18) (N := some 43) (v := ?_) (a' := ?_) #[true, true, true, true, false, false, true, true, true, true, false, false, true, true, true, true, false, false, true, false, false, false, false, false, false, false, false] rfl rfl (any_of HT_.out (by kernel_rfl)) (fun _ _ _ h => h) (Or.inl ⟨by rfl, ?_⟩) ?_ ?_
        rotate_left
        · intro w'
          go_simp
          with_reducible rfl
        rotate_left
        · simp only [Act.put, List.setIfInBounds_toArray, List.set_cons_zero, List.set_cons_succ, i64_w, i32_w]
          rfl
        refine take_ (i := 19) (N := some 44) (v := ?_) (a' := ?_) #[true, true, true, true, false, false, true, true, true, true, false, false, true, true, true, true, false, false, true, true, false, false, false, false, false, false, false] rfl rfl (take_ofW HT_.out HW_.out (by kernel_rfl)) (fun _ _ _ h => h) (Or.inl ⟨by rfl, ?_⟩) hHeld ?_ ?_
        rotate_left
        · rintro w' ⟨s0, s1⟩
          have s_ := (blk_cell s0 3).trans (show _ = some (.slice A0_3 l0_3.length c0_3 : Value) from rfl)
          go_simp
          with_reducible rfl
        rotate_left
        · simp only [Act.put, List.setIfInBounds_toArray, List.set_cons_zero, List.set_cons_succ, i64_w, i32_w]
          rfl
        refine pure_ (i := 20) (N := some 45) (v := ?_) (a' := ?_) #[true, true, true, true, false, false, true, true, true, true, false, false, true, true, true, true, false, false, true, true, true, false, false, false, false, false, false] rfl rfl (any_of HT_.out (by kernel_rfl)) (fun _ _ _ h => h) (Or.inl ⟨by rfl, ?_⟩) ?_ ?_
        rotate_left
        · intro w'
          go_simp
          with_reducible rfl
        rotate_left
        · simp only [Act.put, List.setIfInBounds_toArray, List.set_cons_zero, List.set_cons_succ, i64_w, i32_w]
          rfl
        refine take_ (i := 21) (N := some 46) (v := ?_) (a' := ?_) #[true, true, true, true, false, false, true, true, true, true, false, false, true, true, true, true, false, false, true, true, true, true, false, false, false, false, false] rfl rfl (take_ofW HT_.out HW_.out (by kernel_rfl)) (fun _ _ _ h => h) (Or.inl ⟨by rfl, ?_⟩) hHeld ?_ ?_
        rotate_left
        · rintro w' ⟨s0, s1⟩
          have s_ := (blk_cell s1 3).trans (show _ = some (.slice A1_3 l1_3.length c1_3 : Value) from rfl)
          go_simp
          with_reducible rfl
        rotate_left
        · simp only [Act.put, List.setIfInBounds_toArray, List.set_cons_zero, List.set_cons_succ, i64_w, i32_w]
          rfl
        have SXX := Aside0.mk (show ∀ W' : World, Below w3.drew.heap.size w3.drew W' → (fun W_ => W_.heap[w.heap.size]? = some (.cells #[.slice A0_0 l0_0.length c0_0, .slice A0_1 l0_1.length c0_1, .slice A0_2 l0_2.length c0_2, .slice A0_3 l0_3.length c0_3] 26 (0, 0)) ∧ W_.heap[w.heap.size + 1]? = some (.cells #[.slice A1_0 l1_0.length c1_0, .slice A1_1 l1_1.length c1_1, .slice A1_2 l1_2.length c1_2, .slice A1_3 l1_3.length c1_3] 26 (0, 0))) W' from fun W' hb => ⟨(hb.block w.heap.size (by show w.heap.size < w3.heap.size; have := SZ3.out; omega)).trans X0.out, (hb.block (w.heap.size + 1) (by show w.heap.size + 1 < w3.heap.size; have := SZ3.out; omega)).trans X1.out⟩)
        have HB0 := Aside0.mk (below_drew1 HB3.out)
        have LL := Aside0.mk (show (l0_0.length + l1_0.length ≤ 1000 ∧ l0_1.length + l1_1.length ≤ 1000) ∧ l0_2.length + l1_2.length ≤ 1000 ∧ l0_3.length + l1_3.length ≤ 1000 from by have := L1.out; have := L2.out; omega)
        refine join_ 3 #[true, true, true, true, true, true, true, true, true, true, true, true, true, true, true, true, true, true, true, true, true, true, true, true, false, false, false] (fun s : Nat × Nat × Nat × Nat × Value × Nat × Value × Nat × Value × Nat × Value × Nat => [(29, .slice (some ⟨s.1, 0, none⟩) 2 2), (35, .slice (some ⟨s.2.1, 0, none⟩) 2 2), (41, .slice (some ⟨s.2.2.1, 0, none⟩) 2 2), (47, .slice (some ⟨s.2.2.2.1, 0, none⟩) 2 2), (30, s.2.2.2.2.1), (36, s.2.2.2.2.2.2.1), (42, s.2.2.2.2.2.2.2.2.1), (48, s.2.2.2.2.2.2.2.2.2.2.1)]) (fun s W_ => Below w3.drew.heap.size w3.drew W_ ∧ s.2.2.2.2.2.2.2.2.2.2.2 ≤ W_.heap.size ∧ Hd (Kd.int .i64) 3 W_ w.heap.size w3.heap.size s.2.2.2.2.2.1 s.2.2.2.2.1 y0 ∧ Hd (Kd.int .i64) 3 W_ w.heap.size s.2.2.2.2.2.1 s.2.2.2.2.2.2.2.1 s.2.2.2.2.2.2.1 y1 ∧ Hd (Kd.int .i64) 3 W_ w.heap.size s.2.2.2.2.2.2.2.1 s.2.2.2.2.2.2.2.2.2.1 s.2.2.2.2.2.2.2.2.1 y2 ∧ Hd (Kd.int .i64) 3 W_ w.heap.size s.2.2.2.2.2.2.2.2.2.1 s.2.2.2.2.2.2.2.2.2.2.2 s.2.2.2.2.2.2.2.2.2.2.1 y3 ∧ w3.heap.size ≤ s.2.2.2.2.2.1 ∧ s.2.2.2.2.2.1 ≤ s.2.2.2.2.2.2.2.1 ∧ s.2.2.2.2.2.2.2.1 ≤ s.2.2.2.2.2.2.2.2.2.1 ∧ s.2.2.2.2.2.2.2.2.2.1 ≤ s.2.2.2.2.2.2.2.2.2.2.2) ?_ ?_
        · rintro ⟨g0, g1, g2, g3, v0, e1, v1, e2, v2, e3, v3, e4⟩ W ⟨hb, fe, fd0, fd1, fd2, fd3, fo0, fo1, fo2, fo3⟩
          obtain ⟨B0, d0, rfl⟩ := Hd.form fd0
          obtain ⟨B1, d1, rfl⟩ := Hd.form fd1
          obtain ⟨B2, d2, rfl⟩ := Hd.form fd2
          obtain ⟨B3, d3, rfl⟩ := Hd.form fd3
          refine norm_ (a' := ?_) ?_ ?_
          rotate_left
          · show putAll _ _ = _
            simp only [putAll, Act.put, List.setIfInBounds_toArray, List.set_cons_zero, List.set_cons_succ, i64_w, i32_w]
            rfl
          refine pure_ (i := 24) (N := some 49) (v := ?_) (a' := ?_) #[true, true, true, true, true, true, true, true, true, true, true, true, true, true, true, true, true, true, true, true, true, true, true, true, true, false, false] rfl rfl (any_of HT_.out (by kernel_rfl)) (fun _ _ _ h => h) (Or.inl ⟨by rfl, ?_⟩) ?_ ?_
          rotate_left
          · intro w'
            go_simp
            with_reducible rfl
          rotate_left
          · simp only [Act.put, List.setIfInBounds_toArray, List.set_cons_zero, List.set_cons_succ, i64_w, i32_w]
            rfl
          have hsz3 := SZ3.out
          have Z2 := (hb.block (w.heap.size + 2) (by show w.heap.size + 2 < w3.heap.size; omega)).trans X2.out
          have hd0 := (blk_cell Z2 0).trans (show _ = some (.slice none 0 0 : Value) from rfl)
          have hg0 := blk_frozen Z2 0
          have hd1 := (blk_cell Z2 1).trans (show _ = some (.slice none 0 0 : Value) from rfl)
          have hg1 := blk_frozen Z2 1
          have hd2 := (blk_cell Z2 2).trans (show _ = some (.slice none 0 0 : Value) from rfl)
          have hg2 := blk_frozen Z2 2
          have hd3 := (blk_cell Z2 3).trans (show _ = some (.slice none 0 0 : Value) from rfl)
          have hg3 := blk_frozen Z2 3
          refine last_ (i := 25) (N := none) #[true, true, true, true, true, true, true, true, true, true, true, true, true, true, true, true, true, true, true, true, true, true, true, true, true, true, false] rfl rfl (one_of HT_.out (by kernel_rfl)) (by decide) (fun K hK => ?_)
          refine skip_ (w1 := ?_) (by rfl) rfl ?_ ?_
          rotate_left
          · go_simp
            rfl
          refine hK.out _ _ ?_
          clear hK K
          refine pure_ (i := 26) (N := some 5) (v := ?_) (a' := ?_) #[true, true, true, true, true, true, true, true, true, true, true, true, true, true, true, true, true, true, true, true, true, true, true, true, true, true, true] rfl rfl (any_of HT_.out (by kernel_rfl)) (fun _ _ _ h => h) (Or.inl ⟨by rfl, ?_⟩) ?_ ?_
          rotate_left
          · intro w'
            go_simp
            with_reducible rfl
          rotate_left
          · simp only [Act.put, List.setIfInBounds_toArray, List.set_cons_zero, List.set_cons_succ, i64_w, i32_w]
            rfl
          refine done_ (done_of HT_.out (by kernel_rfl)) ?_
          obtain ⟨st1, st2, st3⟩ := stored4 Z2 (below_step HB0.out hb) (by omega) (.slice B0 y0.length d0) (.slice B1 y1.length d1) (.slice B2 y2.length d2) (.slice B3 y3.length d3)
          have ST1 := Aside0.mk st1
          have ST2 := Aside0.mk st2
          have ST3 := Aside0.mk st3
          clear st1 st2 st3
          go_wp2_with fail
          (try simp only [Exit.inBlock, Exit.then])
          refine bodyPost_ret (results_ct rfl _ _ (w.heap.size + 2) 26 #[.slice B0 y0.length d0, .slice B1 y1.length d1, .slice B2 y2.length d2, .slice B3 y3.length d3] (0, 0) _ rfl ST1.out Try.underlying26 rfl (by kernel_rfl)) rfl ?_
          have fm0 := Hd.move fd0 ST2.out (.inr (by omega))
          have fm1 := Hd.move fd1 ST2.out (.inr (by omega))
          have fm2 := Hd.move fd2 ST2.out (.inr (by omega))
          have fm3 := Hd.move fd3 ST2.out (.inr (by omega))
          rw [← HY0.out, ← HY1.out, ← HY2.out, ← HY3.out]
          exact ⟨_, _, _, _, rfl, Kd.R_mono fm0.own (fun k_ hk => ⟨fun e_ => by have h1 := Hd.within fm1 k_ e_; omega, fun e_ => by have h1 := Hd.within fm2 k_ e_; omega, fun e_ => by have h1 := Hd.within fm3 k_ e_; omega⟩), Kd.R_mono fm1.own (fun k_ hk => ⟨fun e_ => by have h1 := Hd.within fm0 k_ e_; omega, fun e_ => by have h1 := Hd.within fm2 k_ e_; omega, fun e_ => by have h1 := Hd.within fm3 k_ e_; omega⟩), Kd.R_mono fm2.own (fun k_ hk => ⟨fun e_ => by have h1 := Hd.within fm0 k_ e_; omega, fun e_ => by have h1 := Hd.within fm1 k_ e_; omega, fun e_ => by have h1 := Hd.within fm3 k_ e_; omega⟩), Kd.R_mono fm3.own (fun k_ hk => ⟨fun e_ => by have h1 := Hd.within fm0 k_ e_; omega, fun e_ => by have h1 := Hd.within fm1 k_ e_; omega, fun e_ => by have h1 := Hd.within fm2 k_ e_; omega⟩), ST3.out⟩
        intro H_
        have S0123_4 := Aside0.mk H_
        clear H_
        refine join_ 4 #[true, true, true, true, true, true, true, true, true, true, true, true, true, true, true, true, true, true, true, true, true, true, true, false, false, false, false] (fun s : Nat × Nat × Nat × Nat × Value × Nat × Value × Nat × Value × Nat => [(29, .slice (some ⟨s.1, 0, none⟩) 2 2), (35, .slice (some ⟨s.2.1, 0, none⟩) 2 2), (41, .slice (some ⟨s.2.2.1, 0, none⟩) 2 2), (47, .slice (some ⟨s.2.2.2.1, 0, none⟩) 2 2), (30, s.2.2.2.2.1), (36, s.2.2.2.2.2.2.1), (42, s.2.2.2.2.2.2.2.2.1)]) (fun s W_ => Below w3.drew.heap.size w3.drew W_ ∧ s.2.2.2.2.2.2.2.2.2 ≤ W_.heap.size ∧ W_.heap[s.2.2.2.1]? = some (.cells #[.slice A0_3 l0_3.length c0_3, .slice A1_3 l1_3.length c1_3] 22 (0, 0)) ∧ Hd (Kd.int .i64) 3 W_ w.heap.size w3.heap.size s.2.2.2.2.2.1 s.2.2.2.2.1 y0 ∧ Hd (Kd.int .i64) 3 W_ w.heap.size s.2.2.2.2.2.1 s.2.2.2.2.2.2.2.1 s.2.2.2.2.2.2.1 y1 ∧ Hd (Kd.int .i64) 3 W_ w.heap.size s.2.2.2.2.2.2.2.1 s.2.2.2.2.2.2.2.2.2 s.2.2.2.2.2.2.2.2.1 y2 ∧ w3.heap.size ≤ s.2.2.2.2.2.1 ∧ s.2.2.2.2.2.1 ≤ s.2.2.2.2.2.2.2.1 ∧ s.2.2.2.2.2.2.2.1 ≤ s.2.2.2.2.2.2.2.2.2) ?_ ?_
        · rintro ⟨g0, g1, g2, g3, v0, e1, v1, e2, v2, e3⟩ W ⟨hb, fe, fb3, fd0, fd1, fd2, fo0, fo1, fo2⟩
          refine norm_ (a' := ?_) ?_ ?_
          rotate_left
          · show putAll _ _ = _
            simp only [putAll, Act.put, List.setIfInBounds_toArray, List.set_cons_zero, List.set_cons_succ, i64_w, i32_w]
            rfl
          refine one_ (i := 23) (N := some 48) #[true, true, true, true, true, true, true, true, true, true, true, true, true, true, true, true, true, true, true, true, true, true, true, true, false, false, false] rfl rfl (one_of HT_.out (by kernel_rfl)) (by decide) (fun K hK => ?_)
          · refine goes_ Try.func24 (by kernel_rfl) rfl #[.slice (some ⟨g3, 0, none⟩) 2 2] (by rfl) rfl rfl (by (try simp only [List.map_toArray, List.map_cons, List.map_nil]); first | done | rfl) ?_
            have hbw := below_step HB0.out hb
            refine (slices_Concat.calls A0_3 A1_3 c0_3 c1_3 l0_3 l1_3 g3 W fb3 (Kd.C_below HR0_3.out hbw) HC0_3.out (Kd.C_below HR1_3.out hbw) HC1_3.out LL.out.2.2).mono ?_
            rintro e W2 ⟨v3, rfl, ho, hbl⟩
            rw [← HY3.out] at ho
            refine ⟨_, rfl, ?_⟩
            have hbn := below_step hb hbl
            refine hK.out _ _ (SXX.out _ hbn) (fun hHeld => ?_)
            clear hK K
            have hc := S0123_4.out (g0, g1, g2, g3, v0, e1, v1, e2, v2, e3, v3, W2.heap.size) _ ⟨hbn, Nat.le_refl _, Cat.dn fd0 hbl, Cat.dn fd1 hbl, Cat.dn fd2 hbl, Cat.new ho hbw.size fe, fo0, fo1, fo2, Nat.le_trans fe hbl.size⟩
            simp only [putAll, Act.put, List.setIfInBounds_toArray, List.set_cons_zero, List.set_cons_succ] at hc
            refine norm_ (a' := ?_) ?_ ?_
            rotate_left
            · show Act.put _ (some 48) _ = _
              simp only [Act.put, List.setIfInBounds_toArray, List.set_cons_zero, List.set_cons_succ, i64_w, i32_w]
              rfl
            exact hc
        intro H_
        have S0123_3 := Aside0.mk H_
        clear H_
        refine join_ 5 #[true, true, true, true, true, true, true, true, true, true, true, true, true, true, true, true, true, true, true, true, true, true, false, false, false, false, false] (fun s : Nat × Nat × Nat × Value × Nat × Value × Nat × Value × Nat => [(29, .slice (some ⟨s.1, 0, none⟩) 2 2), (35, .slice (some ⟨s.2.1, 0, none⟩) 2 2), (41, .slice (some ⟨s.2.2.1, 0, none⟩) 2 2), (30, s.2.2.2.1), (36, s.2.2.2.2.2.1), (42, s.2.2.2.2.2.2.2.1)]) (fun s W_ => Below w3.drew.heap.size w3.drew W_ ∧ s.2.2.2.2.2.2.2.2 ≤ W_.heap.size ∧ Hd (Kd.int .i64) 3 W_ w.heap.size w3.heap.size s.2.2.2.2.1 s.2.2.2.1 y0 ∧ Hd (Kd.int .i64) 3 W_ w.heap.size s.2.2.2.2.1 s.2.2.2.2.2.2.1 s.2.2.2.2.2.1 y1 ∧ Hd (Kd.int .i64) 3 W_ w.heap.size s.2.2.2.2.2.2.1 s.2.2.2.2.2.2.2.2 s.2.2.2.2.2.2.2.1 y2 ∧ w3.heap.size ≤ s.2.2.2.2.1 ∧ s.2.2.2.2.1 ≤ s.2.2.2.2.2.2.1 ∧ s.2.2.2.2.2.2.1 ≤ s.2.2.2.2.2.2.2.2) ?_ ?_
        · rintro ⟨g0, g1, g2, v0, e1, v1, e2, v2, e3⟩ W ⟨hb, fe, fd0, fd1, fd2, fo0, fo1, fo2⟩
          refine norm_ (a' := ?_) ?_ ?_
          rotate_left
          · show putAll _ _ = _
            simp only [putAll, Act.put, List.setIfInBounds_toArray, List.set_cons_zero, List.set_cons_succ, i64_w, i32_w]
            rfl
          refine one_ (i := 22) (N := some 47) #[true, true, true, true, true, true, true, true, true, true, true, true, true, true, true, true, true, true, true, true, true, true, true, false, false, false, false] rfl rfl (one_of HT_.out (by kernel_rfl)) (by decide) (fun K hK => ?_)
          · refine value_ (w1 := ?_) (v := ?_) (by rfl) rfl ?_ ?_
            rotate_left 2
            · go_simp
              constructor
              · rfl
              · rfl
            have hbl := below_alloc (Below.refl W.heap.size W) (Obj.cells #[.slice A0_3 l0_3.length c0_3, .slice A1_3 l1_3.length c1_3] 22)
            have hbn := below_step hb hbl
            refine hK.out _ _ (SXX.out _ hbn) (fun hHeld => ?_)
            clear hK K
            have hc := S0123_3.out (g0, g1, g2, W.heap.size, v0, e1, v1, e2, v2, e3) _ ⟨hbn, Nat.le_trans fe hbl.size, Go.heap_alloc_new W _, Cat.dn fd0 hbl, Cat.dn fd1 hbl, Cat.dn fd2 hbl, fo0, fo1, fo2⟩
            simp only [putAll, Act.put, List.setIfInBounds_toArray, List.set_cons_zero, List.set_cons_succ] at hc
            refine norm_ (a' := ?_) ?_ ?_
            rotate_left
            · show Act.put _ (some 47) _ = _
              simp only [Act.put, List.setIfInBounds_toArray, List.set_cons_zero, List.set_cons_succ, i64_w, i32_w]
              rfl
            exact hc
        intro H_
        have S012_3 := Aside0.mk H_
        clear H_
        refine join_ 5 #[true, true, true, true, true, true, true, true, true, true, true, true, true, true, true, true, true, false, true, true, true, true, true, false, false, false, false] (fun s : Nat × Nat × Nat × Nat × Value × Nat × Value × Nat => [(29, .slice (some ⟨s.1, 0, none⟩) 2 2), (35, .slice (some ⟨s.2.1, 0, none⟩) 2 2), (41, .slice (some ⟨s.2.2.1, 0, none⟩) 2 2), (47, .slice (some ⟨s.2.2.2.1, 0, none⟩) 2 2), (30, s.2.2.2.2.1), (36, s.2.2.2.2.2.2.1)]) (fun s W_ => Below w3.drew.heap.size w3.drew W_ ∧ s.2.2.2.2.2.2.2 ≤ W_.heap.size ∧ W_.heap[s.2.2.1]? = some (.cells #[.slice A0_2 l0_2.length c0_2, .slice A1_2 l1_2.length c1_2] 22 (0, 0)) ∧ W_.heap[s.2.2.2.1]? = some (.cells #[.slice A0_3 l0_3.length c0_3, .slice A1_3 l1_3.length c1_3] 22 (0, 0)) ∧ Hd (Kd.int .i64) 3 W_ w.heap.size w3.heap.size s.2.2.2.2.2.1 s.2.2.2.2.1 y0 ∧ Hd (Kd.int .i64) 3 W_ w.heap.size s.2.2.2.2.2.1 s.2.2.2.2.2.2.2 s.2.2.2.2.2.2.1 y1 ∧ w3.heap.size ≤ s.2.2.2.2.2.1 ∧ s.2.2.2.2.2.1 ≤ s.2.2.2.2.2.2.2) ?_ ?_
        · rintro ⟨g0, g1, g2, g3, v0, e1, v1, e2⟩ W ⟨hb, fe, fb2, fb3, fd0, fd1, fo0, fo1⟩
          refine norm_ (a' := ?_) ?_ ?_
          rotate_left
          · show putAll _ _ = _
            simp only [putAll, Act.put, List.setIfInBounds_toArray, List.set_cons_zero, List.set_cons_succ, i64_w, i32_w]
            rfl
          refine one_ (i := 17) (N := some 42) #[true, true, true, true, true, true, true, true, true, true, true, true, true, true, true, true, true, true, true, true, true, true, true, false, false, false, false] rfl rfl (one_of HT_.out (by kernel_rfl)) (by decide) (fun K hK => ?_)
          · refine goes_ Try.func24 (by kernel_rfl) rfl #[.slice (some ⟨g2, 0, none⟩) 2 2] (by rfl) rfl rfl (by (try simp only [List.map_toArray, List.map_cons, List.map_nil]); first | done | rfl) ?_
            have hbw := below_step HB0.out hb
            refine (slices_Concat.calls A0_2 A1_2 c0_2 c1_2 l0_2 l1_2 g2 W fb2 (Kd.C_below HR0_2.out hbw) HC0_2.out (Kd.C_below HR1_2.out hbw) HC1_2.out LL.out.2.1).mono ?_
            rintro e W2 ⟨v2, rfl, ho, hbl⟩
            rw [← HY2.out] at ho
            refine ⟨_, rfl, ?_⟩
            have hbn := below_step hb hbl
            refine hK.out _ _ (SXX.out _ hbn) (fun hHeld => ?_)
            clear hK K
            have hc := S0123_3.out (g0, g1, g2, g3, v0, e1, v1, e2, v2, W2.heap.size) _ ⟨hbn, Nat.le_refl _, Cat.bt fb3 hbl, Cat.dn fd0 hbl, Cat.dn fd1 hbl, Cat.new ho hbw.size fe, fo0, fo1, Nat.le_trans fe hbl.size⟩
            simp only [putAll, Act.put, List.setIfInBounds_toArray, List.set_cons_zero, List.set_cons_succ] at hc
            refine norm_ (a' := ?_) ?_ ?_
            rotate_left
            · show Act.put _ (some 42) _ = _
              simp only [Act.put, List.setIfInBounds_toArray, List.set_cons_zero, List.set_cons_succ, i64_w, i32_w]
              rfl
            exact hc
        intro H_
        have S0123_2 := Aside0.mk H_
        clear H_
        refine join_ 6 #[true, true, true, true, true, true, true, true, true, true, true, true, true, true, true, true, true, false, true, true, true, true, false, false, false, false, false] (fun s : Nat × Nat × Nat × Value × Nat × Value × Nat => [(29, .slice (some ⟨s.1, 0, none⟩) 2 2), (35, .slice (some ⟨s.2.1, 0, none⟩) 2 2), (41, .slice (some ⟨s.2.2.1, 0, none⟩) 2 2), (30, s.2.2.2.1), (36, s.2.2.2.2.2.1)]) (fun s W_ => Below w3.drew.heap.size w3.drew W_ ∧ s.2.2.2.2.2.2 ≤ W_.heap.size ∧ W_.heap[s.2.2.1]? = some (.cells #[.slice A0_2 l0_2.length c0_2, .slice A1_2 l1_2.length c1_2] 22 (0, 0)) ∧ Hd (Kd.int .i64) 3 W_ w.heap.size w3.heap.size s.2.2.2.2.1 s.2.2.2.1 y0 ∧ Hd (Kd.int .i64) 3 W_ w.heap.size s.2.2.2.2.1 s.2.2.2.2.2.2 s.2.2.2.2.2.1 y1 ∧ w3.heap.size ≤ s.2.2.2.2.1 ∧ s.2.2.2.2.1 ≤ s.2.2.2.2.2.2) ?_ ?_
        · rintro ⟨g0, g1, g2, v0, e1, v1, e2⟩ W ⟨hb, fe, fb2, fd0, fd1, fo0, fo1⟩
          refine norm_ (a' := ?_) ?_ ?_
          rotate_left
          · show putAll _ _ = _
            simp only [putAll, Act.put, List.setIfInBounds_toArray, List.set_cons_zero, List.set_cons_succ, i64_w, i32_w]
            rfl
          refine two_ (i := 17) (j := 22) (Ni := some 42) (Nj := some 47) #[true, true, true, true, true, true, true, true, true, true, true, true, true, true, true, true, true, true, true, true, true, true, false, false, false, false, false] #[true, true, true, true, true, true, true, true, true, true, true, true, true, true, true, true, true, false, true, true, true, true, true, false, false, false, false] rfl rfl rfl rfl (two_of HT_.out (by kernel_rfl)) (by decide) (by decide) (fun K hK => ?_) (fun K hK => ?_)
          · refine goes_ Try.func24 (by kernel_rfl) rfl #[.slice (some ⟨g2, 0, none⟩) 2 2] (by rfl) rfl rfl (by (try simp only [List.map_toArray, List.map_cons, List.map_nil]); first | done | rfl) ?_
            have hbw := below_step HB0.out hb
            refine (slices_Concat.calls A0_2 A1_2 c0_2 c1_2 l0_2 l1_2 g2 W fb2 (Kd.C_below HR0_2.out hbw) HC0_2.out (Kd.C_below HR1_2.out hbw) HC1_2.out LL.out.2.1).mono ?_
            rintro e W2 ⟨v2, rfl, ho, hbl⟩
            rw [← HY2.out] at ho
            refine ⟨_, rfl, ?_⟩
            have hbn := below_step hb hbl
            refine hK.out _ _ (SXX.out _ hbn) (fun hHeld => ?_)
            clear hK K
            have hc := S012_3.out (g0, g1, g2, v0, e1, v1, e2, v2, W2.heap.size) _ ⟨hbn, Nat.le_refl _, Cat.dn fd0 hbl, Cat.dn fd1 hbl, Cat.new ho hbw.size fe, fo0, fo1, Nat.le_trans fe hbl.size⟩
            simp only [putAll, Act.put, List.setIfInBounds_toArray, List.set_cons_zero, List.set_cons_succ] at hc
            refine norm_ (a' := ?_) ?_ ?_
            rotate_left
            · show Act.put _ (some 42) _ = _
              simp only [Act.put, List.setIfInBounds_toArray, List.set_cons_zero, List.set_cons_succ, i64_w, i32_w]
              rfl
            exact hc
          · refine value_ (w1 := ?_) (v := ?_) (by rfl) rfl ?_ ?_
            rotate_left 2
            · go_simp
              constructor
              · rfl
              · rfl
            have hbl := below_alloc (Below.refl W.heap.size W) (Obj.cells #[.slice A0_3 l0_3.length c0_3, .slice A1_3 l1_3.length c1_3] 22)
            have hbn := below_step hb hbl
            refine hK.out _ _ (SXX.out _ hbn) (fun hHeld => ?_)
            clear hK K
            have hc := S0123_2.out (g0, g1, g2, W.heap.size, v0, e1, v1, e2) _ ⟨hbn, Nat.le_trans fe hbl.size, Cat.bt fb2 hbl, Go.heap_alloc_new W _, Cat.dn fd0 hbl, Cat.dn fd1 hbl, fo0, fo1⟩
            simp only [putAll, Act.put, List.setIfInBounds_toArray, List.set_cons_zero, List.set_cons_succ] at hc
            refine norm_ (a' := ?_) ?_ ?_
            rotate_left
            · show Act.put _ (some 47) _ = _
              simp only [Act.put, List.setIfInBounds_toArray, List.set_cons_zero, List.set_cons_succ, i64_w, i32_w]
              rfl
            exact hc
        intro H_
        have S012_2 := Aside0.mk H_
        clear H_
        refine join_ 6 #[true, true, true, true, true, true, true, true, true, true, true, true, true, true, true, true, false, false, true, true, true, true, true, false, false, false, false] (fun s : Nat × Nat × Nat × Value × Nat × Value × Nat => [(29, .slice (some ⟨s.1, 0, none⟩) 2 2), (35, .slice (some ⟨s.2.1, 0, none⟩) 2 2), (47, .slice (some ⟨s.2.2.1, 0, none⟩) 2 2), (30, s.2.2.2.1), (36, s.2.2.2.2.2.1)]) (fun s W_ => Below w3.drew.heap.size w3.drew W_ ∧ s.2.2.2.2.2.2 ≤ W_.heap.size ∧ W_.heap[s.2.2.1]? = some (.cells #[.slice A0_3 l0_3.length c0_3, .slice A1_3 l1_3.length c1_3] 22 (0, 0)) ∧ Hd (Kd.int .i64) 3 W_ w.heap.size w3.heap.size s.2.2.2.2.1 s.2.2.2.1 y0 ∧ Hd (Kd.int .i64) 3 W_ w.heap.size s.2.2.2.2.1 s.2.2.2.2.2.2 s.2.2.2.2.2.1 y1 ∧ w3.heap.size ≤ s.2.2.2.2.1 ∧ s.2.2.2.2.1 ≤ s.2.2.2.2.2.2) ?_ ?_
        · rintro ⟨g0, g1, g3, v0, e1, v1, e2⟩ W ⟨hb, fe, fb3, fd0, fd1, fo0, fo1⟩
          refine norm_ (a' := ?_) ?_ ?_
          rotate_left
          · show putAll _ _ = _
            simp only [putAll, Act.put, List.setIfInBounds_toArray, List.set_cons_zero, List.set_cons_succ, i64_w, i32_w]
            rfl
          refine one_ (i := 16) (N := some 41) #[true, true, true, true, true, true, true, true, true, true, true, true, true, true, true, true, true, false, true, true, true, true, true, false, false, false, false] rfl rfl (one_of HT_.out (by kernel_rfl)) (by decide) (fun K hK => ?_)
          · refine value_ (w1 := ?_) (v := ?_) (by rfl) rfl ?_ ?_
            rotate_left 2
            · go_simp
              constructor
              · rfl
              · rfl
            have hbl := below_alloc (Below.refl W.heap.size W) (Obj.cells #[.slice A0_2 l0_2.length c0_2, .slice A1_2 l1_2.length c1_2] 22)
            have hbn := below_step hb hbl
            refine hK.out _ _ (SXX.out _ hbn) (fun hHeld => ?_)
            clear hK K
            have hc := S0123_2.out (g0, g1, W.heap.size, g3, v0, e1, v1, e2) _ ⟨hbn, Nat.le_trans fe hbl.size, Go.heap_alloc_new W _, Cat.bt fb3 hbl, Cat.dn fd0 hbl, Cat.dn fd1 hbl, fo0, fo1⟩
            simp only [putAll, Act.put, List.setIfInBounds_toArray, List.set_cons_zero, List.set_cons_succ] at hc
            refine norm_ (a' := ?_) ?_ ?_
            rotate_left
            · show Act.put _ (some 41) _ = _
              simp only [Act.put, List.setIfInBounds_toArray, List.set_cons_zero, List.set_cons_succ, i64_w, i32_w]
              rfl
            exact hc
        intro H_
        have S013_2 := Aside0.mk H_
        clear H_
        refine join_ 6 #[true, true, true, true, true, true, true, true, true, true, true, false, true, true, true, true, true, false, true, true, true, true, true, false, false, false, false] (fun s : Nat × Nat × Nat × Nat × Value × Nat => [(29, .slice (some ⟨s.1, 0, none⟩) 2 2), (35, .slice (some ⟨s.2.1, 0, none⟩) 2 2), (41, .slice (some ⟨s.2.2.1, 0, none⟩) 2 2), (47, .slice (some ⟨s.2.2.2.1, 0, none⟩) 2 2), (30, s.2.2.2.2.1)]) (fun s W_ => Below w3.drew.heap.size w3.drew W_ ∧ s.2.2.2.2.2 ≤ W_.heap.size ∧ W_.heap[s.2.1]? = some (.cells #[.slice A0_1 l0_1.length c0_1, .slice A1_1 l1_1.length c1_1] 22 (0, 0)) ∧ W_.heap[s.2.2.1]? = some (.cells #[.slice A0_2 l0_2.length c0_2, .slice A1_2 l1_2.length c1_2] 22 (0, 0)) ∧ W_.heap[s.2.2.2.1]? = some (.cells #[.slice A0_3 l0_3.length c0_3, .slice A1_3 l1_3.length c1_3] 22 (0, 0)) ∧ Hd (Kd.int .i64) 3 W_ w.heap.size w3.heap.size s.2.2.2.2.2 s.2.2.2.2.1 y0 ∧ w3.heap.size ≤ s.2.2.2.2.2) ?_ ?_
        · rintro ⟨g0, g1, g2, g3, v0, e1⟩ W ⟨hb, fe, fb1, fb2, fb3, fd0, fo0⟩
          refine norm_ (a' := ?_) ?_ ?_
          rotate_left
          · show putAll _ _ = _
            simp only [putAll, Act.put, List.setIfInBounds_toArray, List.set_cons_zero, List.set_cons_succ, i64_w, i32_w]
            rfl
          refine one_ (i := 11) (N := some 36) #[true, true, true, true, true, true, true, true, true, true, true, true, true, true, true, true, true, false, true, true, true, true, true, false, false, false, false] rfl rfl (one_of HT_.out (by kernel_rfl)) (by decide) (fun K hK => ?_)
          · refine goes_ Try.func24 (by kernel_rfl) rfl #[.slice (some ⟨g1, 0, none⟩) 2 2] (by rfl) rfl rfl (by (try simp only [List.map_toArray, List.map_cons, List.map_nil]); first | done | rfl) ?_
            have hbw := below_step HB0.out hb
            refine (slices_Concat.calls A0_1 A1_1 c0_1 c1_1 l0_1 l1_1 g1 W fb1 (Kd.C_below HR0_1.out hbw) HC0_1.out (Kd.C_below HR1_1.out hbw) HC1_1.out LL.out.1.2).mono ?_
            rintro e W2 ⟨v1, rfl, ho, hbl⟩
            rw [← HY1.out] at ho
            refine ⟨_, rfl, ?_⟩
            have hbn := below_step hb hbl
            refine hK.out _ _ (SXX.out _ hbn) (fun hHeld => ?_)
            clear hK K
            have hc := S0123_2.out (g0, g1, g2, g3, v0, e1, v1, W2.heap.size) _ ⟨hbn, Nat.le_refl _, Cat.bt fb2 hbl, Cat.bt fb3 hbl, Cat.dn fd0 hbl, Cat.new ho hbw.size fe, fo0, Nat.le_trans fe hbl.size⟩
            simp only [putAll, Act.put, List.setIfInBounds_toArray, List.set_cons_zero, List.set_cons_succ] at hc
            refine norm_ (a' := ?_) ?_ ?_
            rotate_left
            · show Act.put _ (some 36) _ = _
              simp only [Act.put, List.setIfInBounds_toArray, List.set_cons_zero, List.set_cons_succ, i64_w, i32_w]
              rfl
            exact hc
        intro H_
        have S0123_1 := Aside0.mk H_
        clear H_
        refine join_ 7 #[true, true, true, true, true, true, true, true, true, true, true, true, true, true, true, true, false, false, true, true, true, true, false, false, false, false, false] (fun s : Nat × Nat × Value × Nat × Value × Nat => [(29, .slice (some ⟨s.1, 0, none⟩) 2 2), (35, .slice (some ⟨s.2.1, 0, none⟩) 2 2), (30, s.2.2.1), (36, s.2.2.2.2.1)]) (fun s W_ => Below w3.drew.heap.size w3.drew W_ ∧ s.2.2.2.2.2 ≤ W_.heap.size ∧ Hd (Kd.int .i64) 3 W_ w.heap.size w3.heap.size s.2.2.2.1 s.2.2.1 y0 ∧ Hd (Kd.int .i64) 3 W_ w.heap.size s.2.2.2.1 s.2.2.2.2.2 s.2.2.2.2.1 y1 ∧ w3.heap.size ≤ s.2.2.2.1 ∧ s.2.2.2.1 ≤ s.2.2.2.2.2) ?_ ?_
        · rintro ⟨g0, g1, v0, e1, v1, e2⟩ W ⟨hb, fe, fd0, fd1, fo0, fo1⟩
          refine norm_ (a' := ?_) ?_ ?_
          rotate_left
          · show putAll _ _ = _
            simp only [putAll, Act.put, List.setIfInBounds_toArray, List.set_cons_zero, List.set_cons_succ, i64_w, i32_w]
            rfl
          refine two_ (i := 16) (j := 22) (Ni := some 41) (Nj := some 47) #[true, true, true, true, true, true, true, true, true, true, true, true, true, true, true, true, true, false, true, true, true, true, false, false, false, false, false] #[true, true, true, true, true, true, true, true, true, true, true, true, true, true, true, true, false, false, true, true, true, true, true, false, false, false, false] rfl rfl rfl rfl (two_of HT_.out (by kernel_rfl)) (by decide) (by decide) (fun K hK => ?_) (fun K hK => ?_)
          · refine value_ (w1 := ?_) (v := ?_) (by rfl) rfl ?_ ?_
            rotate_left 2
            · go_simp
              constructor
              · rfl
              · rfl
            have hbl := below_alloc (Below.refl W.heap.size W) (Obj.cells #[.slice A0_2 l0_2.length c0_2, .slice A1_2 l1_2.length c1_2] 22)
            have hbn := below_step hb hbl
            refine hK.out _ _ (SXX.out _ hbn) (fun hHeld => ?_)
            clear hK K
            have hc := S012_2.out (g0, g1, W.heap.size, v0, e1, v1, e2) _ ⟨hbn, Nat.le_trans fe hbl.size, Go.heap_alloc_new W _, Cat.dn fd0 hbl, Cat.dn fd1 hbl, fo0, fo1⟩
            simp only [putAll, Act.put, List.setIfInBounds_toArray, List.set_cons_zero, List.set_cons_succ] at hc
            refine norm_ (a' := ?_) ?_ ?_
            rotate_left
            · show Act.put _ (some 41) _ = _
              simp only [Act.put, List.setIfInBounds_toArray, List.set_cons_zero, List.set_cons_succ, i64_w, i32_w]
              rfl
            exact hc
          · refine value_ (w1 := ?_) (v := ?_) (by rfl) rfl ?_ ?_
            rotate_left 2
            · go_simp
              constructor
              · rfl
              · rfl
            have hbl := below_alloc (Below.refl W.heap.size W) (Obj.cells #[.slice A0_3 l0_3.length c0_3, .slice A1_3 l1_3.length c1_3] 22)
            have hbn := below_step hb hbl
            refine hK.out _ _ (SXX.out _ hbn) (fun hHeld => ?_)
            clear hK K
            have hc := S013_2.out (g0, g1, W.heap.size, v0, e1, v1, e2) _ ⟨hbn, Nat.le_trans fe hbl.size, Go.heap_alloc_new W _, Cat.dn fd0 hbl, Cat.dn fd1 hbl, fo0, fo1⟩
            simp only [putAll, Act.put, List.setIfInBounds_toArray, List.set_cons_zero, List.set_cons_succ] at hc
            refine norm_ (a' := ?_) ?_ ?_
            rotate_left
            · show Act.put _ (some 47) _ = _
              simp only [Act.put, List.setIfInBounds_toArray, List.set_cons_zero, List.set_cons_succ, i64_w, i32_w]
              rfl
            exact hc
        intro H_
        have S01_2 := Aside0.mk H_
        clear H_
        refine join_ 7 #[true, true, true, true, true, true, true, true, true, true, true, false, true, true, true, true, true, false, true, true, true, true, false, false, false, false, false] (fun s : Nat × Nat × Nat × Value × Nat => [(29, .slice (some ⟨s.1, 0, none⟩) 2 2), (35, .slice (some ⟨s.2.1, 0, none⟩) 2 2), (41, .slice (some ⟨s.2.2.1, 0, none⟩) 2 2), (30, s.2.2.2.1)]) (fun s W_ => Below w3.drew.heap.size w3.drew W_ ∧ s.2.2.2.2 ≤ W_.heap.size ∧ W_.heap[s.2.1]? = some (.cells #[.slice A0_1 l0_1.length c0_1, .slice A1_1 l1_1.length c1_1] 22 (0, 0)) ∧ W_.heap[s.2.2.1]? = some (.cells #[.slice A0_2 l0_2.length c0_2, .slice A1_2 l1_2.length c1_2] 22 (0, 0)) ∧ Hd (Kd.int .i64) 3 W_ w.heap.size w3.heap.size s.2.2.2.2 s.2.2.2.1 y0 ∧ w3.heap.size ≤ s.2.2.2.2) ?_ ?_
        · rintro ⟨g0, g1, g2, v0, e1⟩ W ⟨hb, fe, fb1, fb2, fd0, fo0⟩
          refine norm_ (a' := ?_) ?_ ?_
          rotate_left
          · show putAll _ _ = _
            simp only [putAll, Act.put, List.setIfInBounds_toArray, List.set_cons_zero, List.set_cons_succ, i64_w, i32_w]
            rfl
          refine two_ (i := 11) (j := 22) (Ni := some 36) (Nj := some 47) #[true, true, true, true, true, true, true, true, true, true, true, true, true, true, true, true, true, false, true, true, true, true, false, false, false, false, false] #[true, true, true, true, true, true, true, true, true, true, true, false, true, true, true, true, true, false, true, true, true, true, true, false, false, false, false] rfl rfl rfl rfl (two_of HT_.out (by kernel_rfl)) (by decide) (by decide) (fun K hK => ?_) (fun K hK => ?_)
          · refine goes_ Try.func24 (by kernel_rfl) rfl #[.slice (some ⟨g1, 0, none⟩) 2 2] (by rfl) rfl rfl (by (try simp only [List.map_toArray, List.map_cons, List.map_nil]); first | done | rfl) ?_
            have hbw := below_step HB0.out hb
            refine (slices_Concat.calls A0_1 A1_1 c0_1 c1_1 l0_1 l1_1 g1 W fb1 (Kd.C_below HR0_1.out hbw) HC0_1.out (Kd.C_below HR1_1.out hbw) HC1_1.out LL.out.1.2).mono ?_
            rintro e W2 ⟨v1, rfl, ho, hbl⟩
            rw [← HY1.out] at ho
            refine ⟨_, rfl, ?_⟩
            have hbn := below_step hb hbl
            refine hK.out _ _ (SXX.out _ hbn) (fun hHeld => ?_)
            clear hK K
            have hc := S012_2.out (g0, g1, g2, v0, e1, v1, W2.heap.size) _ ⟨hbn, Nat.le_refl _, Cat.bt fb2 hbl, Cat.dn fd0 hbl, Cat.new ho hbw.size fe, fo0, Nat.le_trans fe hbl.size⟩
            simp only [putAll, Act.put, List.setIfInBounds_toArray, List.set_cons_zero, List.set_cons_succ] at hc
            refine norm_ (a' := ?_) ?_ ?_
            rotate_left
            · show Act.put _ (some 36) _ = _
              simp only [Act.put, List.setIfInBounds_toArray, List.set_cons_zero, List.set_cons_succ, i64_w, i32_w]
              rfl
            exact hc
          · refine value_ (w1 := ?_) (v := ?_) (by rfl) rfl ?_ ?_
            rotate_left 2
            · go_simp
              constructor
              · rfl
              · rfl
            have hbl := below_alloc (Below.refl W.heap.size W) (Obj.cells #[.slice A0_3 l0_3.length c0_3, .slice A1_3 l1_3.length c1_3] 22)
            have hbn := below_step hb hbl
            refine hK.out _ _ (SXX.out _ hbn) (fun hHeld => ?_)
            clear hK K
            have hc := S0123_1.out (g0, g1, g2, W.heap.size, v0, e1) _ ⟨hbn, Nat.le_trans fe hbl.size, Cat.bt fb1 hbl, Cat.bt fb2 hbl, Go.heap_alloc_new W _, Cat.dn fd0 hbl, fo0⟩
            simp only [putAll, Act.put, List.setIfInBounds_toArray, List.set_cons_zero, List.set_cons_succ] at hc
            refine norm_ (a' := ?_) ?_ ?_
            rotate_left
            · show Act.put _ (some 47) _ = _
              simp only [Act.put, List.setIfInBounds_toArray, List.set_cons_zero, List.set_cons_succ, i64_w, i32_w]
              rfl
            exact hc
        intro H_
        have S012_1 := Aside0.mk H_
        clear H_
        refine join_ 7 #[true, true, true, true, true, true, true, true, true, true, true, false, true, true, true, true, false, false, true, true, true, true, true, false, false, false, false] (fun s : Nat × Nat × Nat × Value × Nat => [(29, .slice (some ⟨s.1, 0, none⟩) 2 2), (35, .slice (some ⟨s.2.1, 0, none⟩) 2 2), (47, .slice (some ⟨s.2.2.1, 0, none⟩) 2 2), (30, s.2.2.2.1)]) (fun s W_ => Below w3.drew.heap.size w3.drew W_ ∧ s.2.2.2.2 ≤ W_.heap.size ∧ W_.heap[s.2.1]? = some (.cells #[.slice A0_1 l0_1.length c0_1, .slice A1_1 l1_1.length c1_1] 22 (0, 0)) ∧ W_.heap[s.2.2.1]? = some (.cells #[.slice A0_3 l0_3.length c0_3, .slice A1_3 l1_3.length c1_3] 22 (0, 0)) ∧ Hd (Kd.int .i64) 3 W_ w.heap.size w3.heap.size s.2.2.2.2 s.2.2.2.1 y0 ∧ w3.heap.size ≤ s.2.2.2.2) ?_ ?_
        · rintro ⟨g0, g1, g3, v0, e1⟩ W ⟨hb, fe, fb1, fb3, fd0, fo0⟩
          refine norm_ (a' := ?_) ?_ ?_
          rotate_left
          · show putAll _ _ = _
            simp only [putAll, Act.put, List.setIfInBounds_toArray, List.set_cons_zero, List.set_cons_succ, i64_w, i32_w]
            rfl
          refine two_ (i := 11) (j := 16) (Ni := some 36) (Nj := some 41) #[true, true, true, true, true, true, true, true, true, true, true, true, true, true, true, true, false, false, true, true, true, true, true, false, false, false, false] #[true, true, true, true, true, true, true, true, true, true, true, false, true, true, true, true, true, false, true, true, true, true, true, false, false, false, false] rfl rfl rfl rfl (two_of HT_.out (by kernel_rfl)) (by decide) (by decide) (fun K hK => ?_) (fun K hK => ?_)
          · refine goes_ Try.func24 (by kernel_rfl) rfl #[.slice (some ⟨g1, 0, none⟩) 2 2] (by rfl) rfl rfl (by (try simp only [List.map_toArray, List.map_cons, List.map_nil]); first | done | rfl) ?_
            have hbw := below_step HB0.out hb
            refine (slices_Concat.calls A0_1 A1_1 c0_1 c1_1 l0_1 l1_1 g1 W fb1 (Kd.C_below HR0_1.out hbw) HC0_1.out (Kd.C_below HR1_1.out hbw) HC1_1.out LL.out.1.2).mono ?_
            rintro e W2 ⟨v1, rfl, ho, hbl⟩
            rw [← HY1.out] at ho
            refine ⟨_, rfl, ?_⟩
            have hbn := below_step hb hbl
            refine hK.out _ _ (SXX.out _ hbn) (fun hHeld => ?_)
            clear hK K
            have hc := S013_2.out (g0, g1, g3, v0, e1, v1, W2.heap.size) _ ⟨hbn, Nat.le_refl _, Cat.bt fb3 hbl, Cat.dn fd0 hbl, Cat.new ho hbw.size fe, fo0, Nat.le_trans fe hbl.size⟩
            simp only [putAll, Act.put, List.setIfInBounds_toArray, List.set_cons_zero, List.set_cons_succ] at hc
            refine norm_ (a' := ?_) ?_ ?_
            rotate_left
            · show Act.put _ (some 36) _ = _
              simp only [Act.put, List.setIfInBounds_toArray, List.set_cons_zero, List.set_cons_succ, i64_w, i32_w]
              rfl
            exact hc
          · refine value_ (w1 := ?_) (v := ?_) (by rfl) rfl ?_ ?_
            rotate_left 2
            · go_simp
              constructor
              · rfl
              · rfl
            have hbl := below_alloc (Below.refl W.heap.size W) (Obj.cells #[.slice A0_2 l0_2.length c0_2, .slice A1_2 l1_2.length c1_2] 22)
            have hbn := below_step hb hbl
            refine hK.out _ _ (SXX.out _ hbn) (fun hHeld => ?_)
            clear hK K
            have hc := S0123_1.out (g0, g1, W.heap.size, g3, v0, e1) _ ⟨hbn, Nat.le_trans fe hbl.size, Cat.bt fb1 hbl, Go.heap_alloc_new W _, Cat.bt fb3 hbl, Cat.dn fd0 hbl, fo0⟩
            simp only [putAll, Act.put, List.setIfInBounds_toArray, List.set_cons_zero, List.set_cons_succ] at hc
            refine norm_ (a' := ?_) ?_ ?_
            rotate_left
            · show Act.put _ (some 41) _ = _
              simp only [Act.put, List.setIfInBounds_toArray, List.set_cons_zero, List.set_cons_succ, i64_w, i32_w]
              rfl
            exact hc
        intro H_
        have S013_1 := Aside0.mk H_
        clear H_
        refine join_ 7 #[true, true, true, true, true, true, true, true, true, true, false, false, true, true, true, true, true, false, true, true, true, true, true, false, false, false, false] (fun s : Nat × Nat × Nat × Value × Nat => [(29, .slice (some ⟨s.1, 0, none⟩) 2 2), (41, .slice (some ⟨s.2.1, 0, none⟩) 2 2), (47, .slice (some ⟨s.2.2.1, 0, none⟩) 2 2), (30, s.2.2.2.1)]) (fun s W_ => Below w3.drew.heap.size w3.drew W_ ∧ s.2.2.2.2 ≤ W_.heap.size ∧ W_.heap[s.2.1]? = some (.cells #[.slice A0_2 l0_2.length c0_2, .slice A1_2 l1_2.length c1_2] 22 (0, 0)) ∧ W_.heap[s.2.2.1]? = some (.cells #[.slice A0_3 l0_3.length c0_3, .slice A1_3 l1_3.length c1_3] 22 (0, 0)) ∧ Hd (Kd.int .i64) 3 W_ w.heap.size w3.heap.size s.2.2.2.2 s.2.2.2.1 y0 ∧ w3.heap.size ≤ s.2.2.2.2) ?_ ?_
        · rintro ⟨g0, g2, g3, v0, e1⟩ W ⟨hb, fe, fb2, fb3, fd0, fo0⟩
          refine norm_ (a' := ?_) ?_ ?_
          rotate_left
          · show putAll _ _ = _
            simp only [putAll, Act.put, List.setIfInBounds_toArray, List.set_cons_zero, List.set_cons_succ, i64_w, i32_w]
            rfl
          refine one_ (i := 10) (N := some 35) #[true, true, true, true, true, true, true, true, true, true, true, false, true, true, true, true, true, false, true, true, true, true, true, false, false, false, false] rfl rfl (one_of HT_.out (by kernel_rfl)) (by decide) (fun K hK => ?_)
          · refine value_ (w1 := ?_) (v := ?_) (by rfl) rfl ?_ ?_
            rotate_left 2
            · go_simp
              constructor
              · rfl
              · rfl
            have hbl := below_alloc (Below.refl W.heap.size W) (Obj.cells #[.slice A0_1 l0_1.length c0_1, .slice A1_1 l1_1.length c1_1] 22)
            have hbn := below_step hb hbl
            refine hK.out _ _ (SXX.out _ hbn) (fun hHeld => ?_)
            clear hK K
            have hc := S0123_1.out (g0, W.heap.size, g2, g3, v0, e1) _ ⟨hbn, Nat.le_trans fe hbl.size, Go.heap_alloc_new W _, Cat.bt fb2 hbl, Cat.bt fb3 hbl, Cat.dn fd0 hbl, fo0⟩
            simp only [putAll, Act.put, List.setIfInBounds_toArray, List.set_cons_zero, List.set_cons_succ] at hc
            refine norm_ (a' := ?_) ?_ ?_
            rotate_left
            · show Act.put _ (some 35) _ = _
              simp only [Act.put, List.setIfInBounds_toArray, List.set_cons_zero, List.set_cons_succ, i64_w, i32_w]
              rfl
            exact hc
        intro H_
        have S023_1 := Aside0.mk H_
        clear H_
        refine join_ 7 #[true, true, true, true, true, false, true, true, true, true, true, false, true, true, true, true, true, false, true, true, true, true, true, false, false, false, false] (fun s : Nat × Nat × Nat × Nat => [(29, .slice (some ⟨s.1, 0, none⟩) 2 2), (35, .slice (some ⟨s.2.1, 0, none⟩) 2 2), (41, .slice (some ⟨s.2.2.1, 0, none⟩) 2 2), (47, .slice (some ⟨s.2.2.2, 0, none⟩) 2 2)]) (fun s W_ => Below w3.drew.heap.size w3.drew W_ ∧ w3.heap.size ≤ W_.heap.size ∧ W_.heap[s.1]? = some (.cells #[.slice A0_0 l0_0.length c0_0, .slice A1_0 l1_0.length c1_0] 22 (0, 0)) ∧ W_.heap[s.2.1]? = some (.cells #[.slice A0_1 l0_1.length c0_1, .slice A1_1 l1_1.length c1_1] 22 (0, 0)) ∧ W_.heap[s.2.2.1]? = some (.cells #[.slice A0_2 l0_2.length c0_2, .slice A1_2 l1_2.length c1_2] 22 (0, 0)) ∧ W_.heap[s.2.2.2]? = some (.cells #[.slice A0_3 l0_3.length c0_3, .slice A1_3 l1_3.length c1_3] 22 (0, 0))) ?_ ?_
        · rintro ⟨g0, g1, g2, g3⟩ W ⟨hb, fe, fb0, fb1, fb2, fb3⟩
          refine norm_ (a' := ?_) ?_ ?_
          rotate_left
          · show putAll _ _ = _
            simp only [putAll, Act.put, List.setIfInBounds_toArray, List.set_cons_zero, List.set_cons_succ, i64_w, i32_w]
            rfl
          refine one_ (i := 5) (N := some 30) #[true, true, true, true, true, true, true, true, true, true, true, false, true, true, true, true, true, false, true, true, true, true, true, false, false, false, false] rfl rfl (one_of HT_.out (by kernel_rfl)) (by decide) (fun K hK => ?_)
          · refine goes_ Try.func24 (by kernel_rfl) rfl #[.slice (some ⟨g0, 0, none⟩) 2 2] (by rfl) rfl rfl (by (try simp only [List.map_toArray, List.map_cons, List.map_nil]); first | done | rfl) ?_
            have hbw := below_step HB0.out hb
            refine (slices_Concat.calls A0_0 A1_0 c0_0 c1_0 l0_0 l1_0 g0 W fb0 (Kd.C_below HR0_0.out hbw) HC0_0.out (Kd.C_below HR1_0.out hbw) HC1_0.out LL.out.1.1).mono ?_
            rintro e W2 ⟨v0, rfl, ho, hbl⟩
            rw [← HY0.out] at ho
            refine ⟨_, rfl, ?_⟩
            have hbn := below_step hb hbl
            refine hK.out _ _ (SXX.out _ hbn) (fun hHeld => ?_)
            clear hK K
            have hc := S0123_1.out (g0, g1, g2, g3, v0, W2.heap.size) _ ⟨hbn, Nat.le_refl _, Cat.bt fb1 hbl, Cat.bt fb2 hbl, Cat.bt fb3 hbl, Cat.new ho hbw.size fe, Nat.le_trans fe hbl.size⟩
            simp only [putAll, Act.put, List.setIfInBounds_toArray, List.set_cons_zero, List.set_cons_succ] at hc
            refine norm_ (a' := ?_) ?_ ?_
            rotate_left
            · show Act.put _ (some 30) _ = _
              simp only [Act.put, List.setIfInBounds_toArray, List.set_cons_zero, List.set_cons_succ, i64_w, i32_w]
              rfl
            exact hc
        intro H_
        have S0123_0 := Aside0.mk H_
        clear H_
        refine join_ 8 #[true, true, true, true, true, true, true, true, true, true, true, false, true, true, true, true, false, false, true, true, true, true, false, false, false, false, false] (fun s : Nat × Nat × Value × Nat => [(29, .slice (some ⟨s.1, 0, none⟩) 2 2), (35, .slice (some ⟨s.2.1, 0, none⟩) 2 2), (30, s.2.2.1)]) (fun s W_ => Below w3.drew.heap.size w3.drew W_ ∧ s.2.2.2 ≤ W_.heap.size ∧ W_.heap[s.2.1]? = some (.cells #[.slice A0_1 l0_1.length c0_1, .slice A1_1 l1_1.length c1_1] 22 (0, 0)) ∧ Hd (Kd.int .i64) 3 W_ w.heap.size w3.heap.size s.2.2.2 s.2.2.1 y0 ∧ w3.heap.size ≤ s.2.2.2) ?_ ?_
        · rintro ⟨g0, g1, v0, e1⟩ W ⟨hb, fe, fb1, fd0, fo0⟩
          refine norm_ (a' := ?_) ?_ ?_
          rotate_left
          · show putAll _ _ = _
            simp only [putAll, Act.put, List.setIfInBounds_toArray, List.set_cons_zero, List.set_cons_succ, i64_w, i32_w]
            rfl
          refine three_ (i := 11) (j := 16) (k := 22) (Ni := some 36) (Nj := some 41) (Nk := some 47) #[true, true, true, true, true, true, true, true, true, true, true, true, true, true, true, true, false, false, true, true, true, true, false, false, false, false, false] #[true, true, true, true, true, true, true, true, true, true, true, false, true, true, true, true, true, false, true, true, true, true, false, false, false, false, false] #[true, true, true, true, true, true, true, true, true, true, true, false, true, true, true, true, false, false, true, true, true, true, true, false, false, false, false] rfl rfl rfl rfl rfl rfl (three_of HT_.out (by kernel_rfl)) (by decide) (by decide) (by decide) (fun K hK => ?_) (fun K hK => ?_) (fun K hK => ?_)
          · refine goes_ Try.func24 (by kernel_rfl) rfl #[.slice (some ⟨g1, 0, none⟩) 2 2] (by rfl) rfl rfl (by (try simp only [List.map_toArray, List.map_cons, List.map_nil]); first | done | rfl) ?_
            have hbw := below_step HB0.out hb
            refine (slices_Concat.calls A0_1 A1_1 c0_1 c1_1 l0_1 l1_1 g1 W fb1 (Kd.C_below HR0_1.out hbw) HC0_1.out (Kd.C_below HR1_1.out hbw) HC1_1.out LL.out.1.2).mono ?_
            rintro e W2 ⟨v1, rfl, ho, hbl⟩
            rw [← HY1.out] at ho
            refine ⟨_, rfl, ?_⟩
            have hbn := below_step hb hbl
            refine hK.out _ _ (SXX.out _ hbn) (fun hHeld => ?_)
            clear hK K
            have hc := S01_2.out (g0, g1, v0, e1, v1, W2.heap.size) _ ⟨hbn, Nat.le_refl _, Cat.dn fd0 hbl, Cat.new ho hbw.size fe, fo0, Nat.le_trans fe hbl.size⟩
            simp only [putAll, Act.put, List.setIfInBounds_toArray, List.set_cons_zero, List.set_cons_succ] at hc
            refine norm_ (a' := ?_) ?_ ?_
            rotate_left
            · show Act.put _ (some 36) _ = _
              simp only [Act.put, List.setIfInBounds_toArray, List.set_cons_zero, List.set_cons_succ, i64_w, i32_w]
              rfl
            exact hc
          · refine value_ (w1 := ?_) (v := ?_) (by rfl) rfl ?_ ?_
            rotate_left 2
            · go_simp
              constructor
              · rfl
              · rfl
            have hbl := below_alloc (Below.refl W.heap.size W) (Obj.cells #[.slice A0_2 l0_2.length c0_2, .slice A1_2 l1_2.length c1_2] 22)
            have hbn := below_step hb hbl
            refine hK.out _ _ (SXX.out _ hbn) (fun hHeld => ?_)
            clear hK K
            have hc := S012_1.out (g0, g1, W.heap.size, v0, e1) _ ⟨hbn, Nat.le_trans fe hbl.size, Cat.bt fb1 hbl, Go.heap_alloc_new W _, Cat.dn fd0 hbl, fo0⟩
            simp only [putAll, Act.put, List.setIfInBounds_toArray, List.set_cons_zero, List.set_cons_succ] at hc
            refine norm_ (a' := ?_) ?_ ?_
            rotate_left
            · show Act.put _ (some 41) _ = _
              simp only [Act.put, List.setIfInBounds_toArray, List.set_cons_zero, List.set_cons_succ, i64_w, i32_w]
              rfl
            exact hc
          · refine value_ (w1 := ?_) (v := ?_) (by rfl) rfl ?_ ?_
            rotate_left 2
            · go_simp
              constructor
              · rfl
              · rfl
            have hbl := below_alloc (Below.refl W.heap.size W) (Obj.cells #[.slice A0_3 l0_3.length c0_3, .slice A1_3 l1_3.length c1_3] 22)
            have hbn := below_step hb hbl
            refine hK.out _ _ (SXX.out _ hbn) (fun hHeld => ?_)
            clear hK K
            have hc := S013_1.out (g0, g1, W.heap.size, v0, e1) _ ⟨hbn, Nat.le_trans fe hbl.size, Cat.bt fb1 hbl, Go.heap_alloc_new W _, Cat.dn fd0 hbl, fo0⟩
            simp only [putAll, Act.put, List.setIfInBounds_toArray, List.set_cons_zero, List.set_cons_succ] at hc
            refine norm_ (a' := ?_) ?_ ?_
            rotate_left
            · show Act.put _ (some 47) _ = _
              simp only [Act.put, List.setIfInBounds_toArray, List.set_cons_zero, List.set_cons_succ, i64_w, i32_w]
              rfl
            exact hc
        intro H_
        have S01_1 := Aside0.mk H_
        clear H_
        refine join_ 8 #[true, true, true, true, true, true, true, true, true, true, false, false, true, true, true, true, true, false, true, true, true, true, false, false, false, false, false] (fun s : Nat × Nat × Value × Nat => [(29, .slice (some ⟨s.1, 0, none⟩) 2 2), (41, .slice (some ⟨s.2.1, 0, none⟩) 2 2), (30, s.2.2.1)]) (fun s W_ => Below w3.drew.heap.size w3.drew W_ ∧ s.2.2.2 ≤ W_.heap.size ∧ W_.heap[s.2.1]? = some (.cells #[.slice A0_2 l0_2.length c0_2, .slice A1_2 l1_2.length c1_2] 22 (0, 0)) ∧ Hd (Kd.int .i64) 3 W_ w.heap.size w3.heap.size s.2.2.2 s.2.2.1 y0 ∧ w3.heap.size ≤ s.2.2.2) ?_ ?_
        · rintro ⟨g0, g2, v0, e1⟩ W ⟨hb, fe, fb2, fd0, fo0⟩
          refine norm_ (a' := ?_) ?_ ?_
          rotate_left
          · show putAll _ _ = _
            simp only [putAll, Act.put, List.setIfInBounds_toArray, List.set_cons_zero, List.set_cons_succ, i64_w, i32_w]
            rfl
          refine two_ (i := 10) (j := 22) (Ni := some 35) (Nj := some 47) #[true, true, true, true, true, true, true, true, true, true, true, false, true, true, true, true, true, false, true, true, true, true, false, false, false, false, false] #[true, true, true, true, true, true, true, true, true, true, false, false, true, true, true, true, true, false, true, true, true, true, true, false, false, false, false] rfl rfl rfl rfl (two_of HT_.out (by kernel_rfl)) (by decide) (by decide) (fun K hK => ?_) (fun K hK => ?_)
          · refine value_ (w1 := ?_) (v := ?_) (by rfl) rfl ?_ ?_
            rotate_left 2
            · go_simp
              constructor
              · rfl
              · rfl
            have hbl := below_alloc (Below.refl W.heap.size W) (Obj.cells #[.slice A0_1 l0_1.length c0_1, .slice A1_1 l1_1.length c1_1] 22)
            have hbn := below_step hb hbl
            refine hK.out _ _ (SXX.out _ hbn) (fun hHeld => ?_)
            clear hK K
            have hc := S012_1.out (g0, W.heap.size, g2, v0, e1) _ ⟨hbn, Nat.le_trans fe hbl.size, Go.heap_alloc_new W _, Cat.bt fb2 hbl, Cat.dn fd0 hbl, fo0⟩
            simp only [putAll, Act.put, List.setIfInBounds_toArray, List.set_cons_zero, List.set_cons_succ] at hc
            refine norm_ (a' := ?_) ?_ ?_
            rotate_left
            · show Act.put _ (some 35) _ = _
              simp only [Act.put, List.setIfInBounds_toArray, List.set_cons_zero, List.set_cons_succ, i64_w, i32_w]
              rfl
            exact hc
          · refine value_ (w1 := ?_) (v := ?_) (by rfl) rfl ?_ ?_
            rotate_left 2
            · go_simp
              constructor
              · rfl
              · rfl
            have hbl := below_alloc (Below.refl W.heap.size W) (Obj.cells #[.slice A0_3 l0_3.length c0_3, .slice A1_3 l1_3.length c1_3] 22)
            have hbn := below_step hb hbl
            refine hK.out _ _ (SXX.out _ hbn) (fun hHeld => ?_)
            clear hK K
            have hc := S023_1.out (g0, g2, W.heap.size, v0, e1) _ ⟨hbn, Nat.le_trans fe hbl.size, Cat.bt fb2 hbl, Go.heap_alloc_new W _, Cat.dn fd0 hbl, fo0⟩
            simp only [putAll, Act.put, List.setIfInBounds_toArray, List.set_cons_zero, List.set_cons_succ] at hc
            refine norm_ (a' := ?_) ?_ ?_
            rotate_left
            · show Act.put _ (some 47) _ = _
              simp only [Act.put, List.setIfInBounds_toArray, List.set_cons_zero, List.set_cons_succ, i64_w, i32_w]
              rfl
            exact hc
        intro H_
        have S02_1 := Aside0.mk H_
        clear H_
        refine join_ 8 #[true, true, true, true, true, true, true, true, true, true, false, false, true, true, true, true, false, false, true, true, true, true, true, false, false, false, false] (fun s : Nat × Nat × Value × Nat => [(29, .slice (some ⟨s.1, 0, none⟩) 2 2), (47, .slice (some ⟨s.2.1, 0, none⟩) 2 2), (30, s.2.2.1)]) (fun s W_ => Below w3.drew.heap.size w3.drew W_ ∧ s.2.2.2 ≤ W_.heap.size ∧ W_.heap[s.2.1]? = some (.cells #[.slice A0_3 l0_3.length c0_3, .slice A1_3 l1_3.length c1_3] 22 (0, 0)) ∧ Hd (Kd.int .i64) 3 W_ w.heap.size w3.heap.size s.2.2.2 s.2.2.1 y0 ∧ w3.heap.size ≤ s.2.2.2) ?_ ?_
        · rintro ⟨g0, g3, v0, e1⟩ W ⟨hb, fe, fb3, fd0, fo0⟩
          refine norm_ (a' := ?_) ?_ ?_
          rotate_left
          · show putAll _ _ = _
            simp only [putAll, Act.put, List.setIfInBounds_toArray, List.set_cons_zero, List.set_cons_succ, i64_w, i32_w]
            rfl
          refine two_ (i := 10) (j := 16) (Ni := some 35) (Nj := some 41) #[true, true, true, true, true, true, true, true, true, true, true, false, true, true, true, true, false, false, true, true, true, true, true, false, false, false, false] #[true, true, true, true, true, true, true, true, true, true, false, false, true, true, true, true, true, false, true, true, true, true, true, false, false, false, false] rfl rfl rfl rfl (two_of HT_.out (by kernel_rfl)) (by decide) (by decide) (fun K hK => ?_) (fun K hK => ?_)
          · refine value_ (w1 := ?_) (v := ?_) (by rfl) rfl ?_ ?_
            rotate_left 2
            · go_simp
              constructor
              · rfl
              · rfl
            have hbl := below_alloc (Below.refl W.heap.size W) (Obj.cells #[.slice A0_1 l0_1.length c0_1, .slice A1_1 l1_1.length c1_1] 22)
            have hbn := below_step hb hbl
            refine hK.out _ _ (SXX.out _ hbn) (fun hHeld => ?_)
            clear hK K
            have hc := S013_1.out (g0, W.heap.size, g3, v0, e1) _ ⟨hbn, Nat.le_trans fe hbl.size, Go.heap_alloc_new W _, Cat.bt fb3 hbl, Cat.dn fd0 hbl, fo0⟩
            simp only [putAll, Act.put, List.setIfInBounds_toArray, List.set_cons_zero, List.set_cons_succ] at hc
            refine norm_ (a' := ?_) ?_ ?_
            rotate_left
            · show Act.put _ (some 35) _ = _
              simp only [Act.put, List.setIfInBounds_toArray, List.set_cons_zero, List.set_cons_succ, i64_w, i32_w]
              rfl
            exact hc
          · refine value_ (w1 := ?_) (v := ?_) (by rfl) rfl ?_ ?_
            rotate_left 2
            · go_simp
              constructor
              · rfl
              · rfl
            have hbl := below_alloc (Below.refl W.heap.size W) (Obj.cells #[.slice A0_2 l0_2.length c0_2, .slice A1_2 l1_2.length c1_2] 22)
            have hbn := below_step hb hbl
            refine hK.out _ _ (SXX.out _ hbn) (fun hHeld => ?_)
            clear hK K
            have hc := S023_1.out (g0, W.heap.size, g3, v0, e1) _ ⟨hbn, Nat.le_trans fe hbl.size, Go.heap_alloc_new W _, Cat.bt fb3 hbl, Cat.dn fd0 hbl, fo0⟩
            simp only [putAll, Act.put, List.setIfInBounds_toArray, List.set_cons_zero, List.set_cons_succ] at hc
            refine norm_ (a' := ?_) ?_ ?_
            rotate_left
            · show Act.put _ (some 41) _ = _
              simp only [Act.put, List.setIfInBounds_toArray, List.set_cons_zero, List.set_cons_succ, i64_w, i32_w]
              rfl
            exact hc
        intro H_
        have S03_1 := Aside0.mk H_
        clear H_
        refine join_ 8 #[true, true, true, true, true, false, true, true, true, true, true, false, true, true, true, true, true, false, true, true, true, true, false, false, false, false, false] (fun s : Nat × Nat × Nat => [(29, .slice (some ⟨s.1, 0, none⟩) 2 2), (35, .slice (some ⟨s.2.1, 0, none⟩) 2 2), (41, .slice (some ⟨s.2.2, 0, none⟩) 2 2)]) (fun s W_ => Below w3.drew.heap.size w3.drew W_ ∧ w3.heap.size ≤ W_.heap.size ∧ W_.heap[s.1]? = some (.cells #[.slice A0_0 l0_0.length c0_0, .slice A1_0 l1_0.length c1_0] 22 (0, 0)) ∧ W_.heap[s.2.1]? = some (.cells #[.slice A0_1 l0_1.length c0_1, .slice A1_1 l1_1.length c1_1] 22 (0, 0)) ∧ W_.heap[s.2.2]? = some (.cells #[.slice A0_2 l0_2.length c0_2, .slice A1_2 l1_2.length c1_2] 22 (0, 0))) ?_ ?_
        · rintro ⟨g0, g1, g2⟩ W ⟨hb, fe, fb0, fb1, fb2⟩
          refine norm_ (a' := ?_) ?_ ?_
          rotate_left
          · show putAll _ _ = _
            simp only [putAll, Act.put, List.setIfInBounds_toArray, List.set_cons_zero, List.set_cons_succ, i64_w, i32_w]
            rfl
          refine two_ (i := 5) (j := 22) (Ni := some 30) (Nj := some 47) #[true, true, true, true, true, true, true, true, true, true, true, false, true, true, true, true, true, false, true, true, true, true, false, false, false, false, false] #[true, true, true, true, true, false, true, true, true, true, true, false, true, true, true, true, true, false, true, true, true, true, true, false, false, false, false] rfl rfl rfl rfl (two_of HT_.out (by kernel_rfl)) (by decide) (by decide) (fun K hK => ?_) (fun K hK => ?_)
          · refine goes_ Try.func24 (by kernel_rfl) rfl #[.slice (some ⟨g0, 0, none⟩) 2 2] (by rfl) rfl rfl (by (try simp only [List.map_toArray, List.map_cons, List.map_nil]); first | done | rfl) ?_
            have hbw := below_step HB0.out hb
            refine (slices_Concat.calls A0_0 A1_0 c0_0 c1_0 l0_0 l1_0 g0 W fb0 (Kd.C_below HR0_0.out hbw) HC0_0.out (Kd.C_below HR1_0.out hbw) HC1_0.out LL.out.1.1).mono ?_
            rintro e W2 ⟨v0, rfl, ho, hbl⟩
            rw [← HY0.out] at ho
            refine ⟨_, rfl, ?_⟩
            have hbn := below_step hb hbl
            refine hK.out _ _ (SXX.out _ hbn) (fun hHeld => ?_)
            clear hK K
            have hc := S012_1.out (g0, g1, g2, v0, W2.heap.size) _ ⟨hbn, Nat.le_refl _, Cat.bt fb1 hbl, Cat.bt fb2 hbl, Cat.new ho hbw.size fe, Nat.le_trans fe hbl.size⟩
            simp only [putAll, Act.put, List.setIfInBounds_toArray, List.set_cons_zero, List.set_cons_succ] at hc
            refine norm_ (a' := ?_) ?_ ?_
            rotate_left
            · show Act.put _ (some 30) _ = _
              simp only [Act.put, List.setIfInBounds_toArray, List.set_cons_zero, List.set_cons_succ, i64_w, i32_w]
              rfl
            exact hc
          · refine value_ (w1 := ?_) (v := ?_) (by rfl) rfl ?_ ?_
            rotate_left 2
            · go_simp
              constructor
              · rfl
              · rfl
            have hbl := below_alloc (Below.refl W.heap.size W) (Obj.cells #[.slice A0_3 l0_3.length c0_3, .slice A1_3 l1_3.length c1_3] 22)
            have hbn := below_step hb hbl
            refine hK.out _ _ (SXX.out _ hbn) (fun hHeld => ?_)
            clear hK K
            have hc := S0123_0.out (g0, g1, g2, W.heap.size) _ ⟨hbn, Nat.le_trans fe hbl.size, Cat.bt fb0 hbl, Cat.bt fb1 hbl, Cat.bt fb2 hbl, Go.heap_alloc_new W _⟩
            simp only [putAll, Act.put, List.setIfInBounds_toArray, List.set_cons_zero, List.set_cons_succ] at hc
            refine norm_ (a' := ?_) ?_ ?_
            rotate_left
            · show Act.put _ (some 47) _ = _
              simp only [Act.put, List.setIfInBounds_toArray, List.set_cons_zero, List.set_cons_succ, i64_w, i32_w]
              rfl
            exact hc
        intro H_
        have S012_0 := Aside0.mk H_
        clear H_
        refine join_ 8 #[true, true, true, true, true, false, true, true, true, true, true, false, true, true, true, true, false, false, true, true, true, true, true, false, false, false, false] (fun s : Nat × Nat × Nat => [(29, .slice (some ⟨s.1, 0, none⟩) 2 2), (35, .slice (some ⟨s.2.1, 0, none⟩) 2 2), (47, .slice (some ⟨s.2.2, 0, none⟩) 2 2)]) (fun s W_ => Below w3.drew.heap.size w3.drew W_ ∧ w3.heap.size ≤ W_.heap.size ∧ W_.heap[s.1]? = some (.cells #[.slice A0_0 l0_0.length c0_0, .slice A1_0 l1_0.length c1_0] 22 (0, 0)) ∧ W_.heap[s.2.1]? = some (.cells #[.slice A0_1 l0_1.length c0_1, .slice A1_1 l1_1.length c1_1] 22 (0, 0)) ∧ W_.heap[s.2.2]? = some (.cells #[.slice A0_3 l0_3.length c0_3, .slice A1_3 l1_3.length c1_3] 22 (0, 0))) ?_ ?_
        · rintro ⟨g0, g1, g3⟩ W ⟨hb, fe, fb0, fb1, fb3⟩
          refine norm_ (a' := ?_) ?_ ?_
          rotate_left
          · show putAll _ _ = _
            simp only [putAll, Act.put, List.setIfInBounds_toArray, List.set_cons_zero, List.set_cons_succ, i64_w, i32_w]
            rfl
          refine two_ (i := 5) (j := 16) (Ni := some 30) (Nj := some 41) #[true, true, true, true, true, true, true, true, true, true, true, false, true, true, true, true, false, false, true, true, true, true, true, false, false, false, false] #[true, true, true, true, true, false, true, true, true, true, true, false, true, true, true, true, true, false, true, true, true, true, true, false, false, false, false] rfl rfl rfl rfl (two_of HT_.out (by kernel_rfl)) (by decide) (by decide) (fun K hK => ?_) (fun K hK => ?_)
          · refine goes_ Try.func24 (by kernel_rfl) rfl #[.slice (some ⟨g0, 0, none⟩) 2 2] (by rfl) rfl rfl (by (try simp only [List.map_toArray, List.map_cons, List.map_nil]); first | done | rfl) ?_
            have hbw := below_step HB0.out hb
            refine (slices_Concat.calls A0_0 A1_0 c0_0 c1_0 l0_0 l1_0 g0 W fb0 (Kd.C_below HR0_0.out hbw) HC0_0.out (Kd.C_below HR1_0.out hbw) HC1_0.out LL.out.1.1).mono ?_
            rintro e W2 ⟨v0, rfl, ho, hbl⟩
            rw [← HY0.out] at ho
            refine ⟨_, rfl, ?_⟩
            have hbn := below_step hb hbl
            refine hK.out _ _ (SXX.out _ hbn) (fun hHeld => ?_)
            clear hK K
            have hc := S013_1.out (g0, g1, g3, v0, W2.heap.size) _ ⟨hbn, Nat.le_refl _, Cat.bt fb1 hbl, Cat.bt fb3 hbl, Cat.new ho hbw.size fe, Nat.le_trans fe hbl.size⟩
            simp only [putAll, Act.put, List.setIfInBounds_toArray, List.set_cons_zero, List.set_cons_succ] at hc
            refine norm_ (a' := ?_) ?_ ?_
            rotate_left
            · show Act.put _ (some 30) _ = _
              simp only [Act.put, List.setIfInBounds_toArray, List.set_cons_zero, List.set_cons_succ, i64_w, i32_w]
              rfl
            exact hc
          · refine value_ (w1 := ?_) (v := ?_) (by rfl) rfl ?_ ?_
            rotate_left 2
            · go_simp
              constructor
              · rfl
              · rfl
            have hbl := below_alloc (Below.refl W.heap.size W) (Obj.cells #[.slice A0_2 l0_2.length c0_2, .slice A1_2 l1_2.length c1_2] 22)
            have hbn := below_step hb hbl
            refine hK.out _ _ (SXX.out _ hbn) (fun hHeld => ?_)
            clear hK K
            have hc := S0123_0.out (g0, g1, W.heap.size, g3) _ ⟨hbn, Nat.le_trans fe hbl.size, Cat.bt fb0 hbl, Cat.bt fb1 hbl, Go.heap_alloc_new W _, Cat.bt fb3 hbl⟩
            simp only [putAll, Act.put, List.setIfInBounds_toArray, List.set_cons_zero, List.set_cons_succ] at hc
            refine norm_ (a' := ?_) ?_ ?_
            rotate_left
            · show Act.put _ (some 41) _ = _
              simp only [Act.put, List.setIfInBounds_toArray, List.set_cons_zero, List.set_cons_succ, i64_w, i32_w]
              rfl
            exact hc
        intro H_
        have S013_0 := Aside0.mk H_
        clear H_
        refine join_ 8 #[true, true, true, true, true, false, true, true, true, true, false, false, true, true, true, true, true, false, true, true, true, true, true, false, false, false, false] (fun s : Nat × Nat × Nat => [(29, .slice (some ⟨s.1, 0, none⟩) 2 2), (41, .slice (some ⟨s.2.1, 0, none⟩) 2 2), (47, .slice (some ⟨s.2.2, 0, none⟩) 2 2)]) (fun s W_ => Below w3.drew.heap.size w3.drew W_ ∧ w3.heap.size ≤ W_.heap.size ∧ W_.heap[s.1]? = some (.cells #[.slice A0_0 l0_0.length c0_0, .slice A1_0 l1_0.length c1_0] 22 (0, 0)) ∧ W_.heap[s.2.1]? = some (.cells #[.slice A0_2 l0_2.length c0_2, .slice A1_2 l1_2.length c1_2] 22 (0, 0)) ∧ W_.heap[s.2.2]? = some (.cells #[.slice A0_3 l0_3.length c0_3, .slice A1_3 l1_3.length c1_3] 22 (0, 0))) ?_ ?_
        · rintro ⟨g0, g2, g3⟩ W ⟨hb, fe, fb0, fb2, fb3⟩
          refine norm_ (a' := ?_) ?_ ?_
          rotate_left
          · show putAll _ _ = _
            simp only [putAll, Act.put, List.setIfInBounds_toArray, List.set_cons_zero, List.set_cons_succ, i64_w, i32_w]
            rfl
          refine two_ (i := 5) (j := 10) (Ni := some 30) (Nj := some 35) #[true, true, true, true, true, true, true, true, true, true, false, false, true, true, true, true, true, false, true, true, true, true, true, false, false, false, false] #[true, true, true, true, true, false, true, true, true, true, true, false, true, true, true, true, true, false, true, true, true, true, true, false, false, false, false] rfl rfl rfl rfl (two_of HT_.out (by kernel_rfl)) (by decide) (by decide) (fun K hK => ?_) (fun K hK => ?_)
          · refine goes_ Try.func24 (by kernel_rfl) rfl #[.slice (some ⟨g0, 0, none⟩) 2 2] (by rfl) rfl rfl (by (try simp only [List.map_toArray, List.map_cons, List.map_nil]); first | done | rfl) ?_
            have hbw := below_step HB0.out hb
            refine (slices_Concat.calls A0_0 A1_0 c0_0 c1_0 l0_0 l1_0 g0 W fb0 (Kd.C_below HR0_0.out hbw) HC0_0.out (Kd.C_below HR1_0.out hbw) HC1_0.out LL.out.1.1).mono ?_
            rintro e W2 ⟨v0, rfl, ho, hbl⟩
            rw [← HY0.out] at ho
            refine ⟨_, rfl, ?_⟩
            have hbn := below_step hb hbl
            refine hK.out _ _ (SXX.out _ hbn) (fun hHeld => ?_)
            clear hK K
            have hc := S023_1.out (g0, g2, g3, v0, W2.heap.size) _ ⟨hbn, Nat.le_refl _, Cat.bt fb2 hbl, Cat.bt fb3 hbl, Cat.new ho hbw.size fe, Nat.le_trans fe hbl.size⟩
            simp only [putAll, Act.put, List.setIfInBounds_toArray, List.set_cons_zero, List.set_cons_succ] at hc
            refine norm_ (a' := ?_) ?_ ?_
            rotate_left
            · show Act.put _ (some 30) _ = _
              simp only [Act.put, List.setIfInBounds_toArray, List.set_cons_zero, List.set_cons_succ, i64_w, i32_w]
              rfl
            exact hc
          · refine value_ (w1 := ?_) (v := ?_) (by rfl) rfl ?_ ?_
            rotate_left 2
            · go_simp
              constructor
              · rfl
              · rfl
            have hbl := below_alloc (Below.refl W.heap.size W) (Obj.cells #[.slice A0_1 l0_1.length c0_1, .slice A1_1 l1_1.length c1_1] 22)
            have hbn := below_step hb hbl
            refine hK.out _ _ (SXX.out _ hbn) (fun hHeld => ?_)
            clear hK K
            have hc := S0123_0.out (g0, W.heap.size, g2, g3) _ ⟨hbn, Nat.le_trans fe hbl.size, Cat.bt fb0 hbl, Go.heap_alloc_new W _, Cat.bt fb2 hbl, Cat.bt fb3 hbl⟩
            simp only [putAll, Act.put, List.setIfInBounds_toArray, List.set_cons_zero, List.set_cons_succ] at hc
            refine norm_ (a' := ?_) ?_ ?_
            rotate_left
            · show Act.put _ (some 35) _ = _
              simp only [Act.put, List.setIfInBounds_toArray, List.set_cons_zero, List.set_cons_succ, i64_w, i32_w]
              rfl
            exact hc
        intro H_
        have S023_0 := Aside0.mk H_
        clear H_
        refine join_ 8 #[true, true, true, true, false, false, true, true, true, true, true, false, true, true, true, true, true, false, true, true, true, true, true, false, false, false, false] (fun s : Nat × Nat × Nat => [(35, .slice (some ⟨s.1, 0, none⟩) 2 2), (41, .slice (some ⟨s.2.1, 0, none⟩) 2 2), (47, .slice (some ⟨s.2.2, 0, none⟩) 2 2)]) (fun s W_ => Below w3.drew.heap.size w3.drew W_ ∧ w3.heap.size ≤ W_.heap.size ∧ W_.heap[s.1]? = some (.cells #[.slice A0_1 l0_1.length c0_1, .slice A1_1 l1_1.length c1_1] 22 (0, 0)) ∧ W_.heap[s.2.1]? = some (.cells #[.slice A0_2 l0_2.length c0_2, .slice A1_2 l1_2.length c1_2] 22 (0, 0)) ∧ W_.heap[s.2.2]? = some (.cells #[.slice A0_3 l0_3.length c0_3, .slice A1_3 l1_3.length c1_3] 22 (0, 0))) ?_ ?_
        · rintro ⟨g1, g2, g3⟩ W ⟨hb, fe, fb1, fb2, fb3⟩
          refine norm_ (a' := ?_) ?_ ?_
          rotate_left
          · show putAll _ _ = _
            simp only [putAll, Act.put, List.setIfInBounds_toArray, List.set_cons_zero, List.set_cons_succ, i64_w, i32_w]
            rfl
          refine one_ (i := 4) (N := some 29) #[true, true, true, true, true, false, true, true, true, true, true, false, true, true, true, true, true, false, true, true, true, true, true, false, false, false, false] rfl rfl (one_of HT_.out (by kernel_rfl)) (by decide) (fun K hK => ?_)
          · refine value_ (w1 := ?_) (v := ?_) (by rfl) rfl ?_ ?_
            rotate_left 2
            · go_simp
              constructor
              · rfl
              · rfl
            have hbl := below_alloc (Below.refl W.heap.size W) (Obj.cells #[.slice A0_0 l0_0.length c0_0, .slice A1_0 l1_0.length c1_0] 22)
            have hbn := below_step hb hbl
            refine hK.out _ _ (SXX.out _ hbn) (fun hHeld => ?_)
            clear hK K
            have hc := S0123_0.out (W.heap.size, g1, g2, g3) _ ⟨hbn, Nat.le_trans fe hbl.size, Go.heap_alloc_new W _, Cat.bt fb1 hbl, Cat.bt fb2 hbl, Cat.bt fb3 hbl⟩
            simp only [putAll, Act.put, List.setIfInBounds_toArray, List.set_cons_zero, List.set_cons_succ] at hc
            refine norm_ (a' := ?_) ?_ ?_
            rotate_left
            · show Act.put _ (some 29) _ = _
              simp only [Act.put, List.setIfInBounds_toArray, List.set_cons_zero, List.set_cons_succ, i64_w, i32_w]
              rfl
            exact hc
        intro H_
        have S123_0 := Aside0.mk H_
        clear H_
        refine join_ 9 #[true, true, true, true, true, true, true, true, true, true, false, false, true, true, true, true, false, false, true, true, true, true, false, false, false, false, false] (fun s : Nat × Value × Nat => [(29, .slice (some ⟨s.1, 0, none⟩) 2 2), (30, s.2.1)]) (fun s W_ => Below w3.drew.heap.size w3.drew W_ ∧ s.2.2 ≤ W_.heap.size ∧ Hd (Kd.int .i64) 3 W_ w.heap.size w3.heap.size s.2.2 s.2.1 y0 ∧ w3.heap.size ≤ s.2.2) ?_ ?_
        · rintro ⟨g0, v0, e1⟩ W ⟨hb, fe, fd0, fo0⟩
          refine norm_ (a' := ?_) ?_ ?_
          rotate_left
          · show putAll _ _ = _
            simp only [putAll, Act.put, List.setIfInBounds_toArray, List.set_cons_zero, List.set_cons_succ, i64_w, i32_w]
            rfl
          refine three_ (i := 10) (j := 16) (k := 22) (Ni := some 35) (Nj := some 41) (Nk := some 47) #[true, true, true, true, true, true, true, true, true, true, true, false, true, true, true, true, false, false, true, true, true, true, false, false, false, false, false] #[true, true, true, true, true, true, true, true, true, true, false, false, true, true, true, true, true, false, true, true, true, true, false, false, false, false, false] #[true, true, true, true, true, true, true, true, true, true, false, false, true, true, true, true, false, false, true, true, true, true, true, false, false, false, false] rfl rfl rfl rfl rfl rfl (three_of HT_.out (by kernel_rfl)) (by decide) (by decide) (by decide) (fun K hK => ?_) (fun K hK => ?_) (fun K hK => ?_)
          · refine value_ (w1 := ?_) (v := ?_) (by rfl) rfl ?_ ?_
            rotate_left 2
            · go_simp
              constructor
              · rfl
              · rfl
            have hbl := below_alloc (Below.refl W.heap.size W) (Obj.cells #[.slice A0_1 l0_1.length c0_1, .slice A1_1 l1_1.length c1_1] 22)
            have hbn := below_step hb hbl
            refine hK.out _ _ (SXX.out _ hbn) (fun hHeld => ?_)
            clear hK K
            have hc := S01_1.out (g0, W.heap.size, v0, e1) _ ⟨hbn, Nat.le_trans fe hbl.size, Go.heap_alloc_new W _, Cat.dn fd0 hbl, fo0⟩
            simp only [putAll, Act.put, List.setIfInBounds_toArray, List.set_cons_zero, List.set_cons_succ] at hc
            refine norm_ (a' := ?_) ?_ ?_
            rotate_left
            · show Act.put _ (some 35) _ = _
              simp only [Act.put, List.setIfInBounds_toArray, List.set_cons_zero, List.set_cons_succ, i64_w, i32_w]
              rfl
            exact hc
          · refine value_ (w1 := ?_) (v := ?_) (by rfl) rfl ?_ ?_
            rotate_left 2
            · go_simp
              constructor
              · rfl
              · rfl
            have hbl := below_alloc (Below.refl W.heap.size W) (Obj.cells #[.slice A0_2 l0_2.length c0_2, .slice A1_2 l1_2.length c1_2] 22)
            have hbn := below_step hb hbl
            refine hK.out _ _ (SXX.out _ hbn) (fun hHeld => ?_)
            clear hK K
            have hc := S02_1.out (g0, W.heap.size, v0, e1) _ ⟨hbn, Nat.le_trans fe hbl.size, Go.heap_alloc_new W _, Cat.dn fd0 hbl, fo0⟩
            simp only [putAll, Act.put, List.setIfInBounds_toArray, List.set_cons_zero, List.set_cons_succ] at hc
            refine norm_ (a' := ?_) ?_ ?_
            rotate_left
            · show Act.put _ (some 41) _ = _
              simp only [Act.put, List.setIfInBounds_toArray, List.set_cons_zero, List.set_cons_succ, i64_w, i32_w]
              rfl
            exact hc
          · refine value_ (w1 := ?_) (v := ?_) (by rfl) rfl ?_ ?_
            rotate_left 2
            · go_simp
              constructor
              · rfl
              · rfl
            have hbl := below_alloc (Below.refl W.heap.size W) (Obj.cells #[.slice A0_3 l0_3.length c0_3, .slice A1_3 l1_3.length c1_3] 22)
            have hbn := below_step hb hbl
            refine hK.out _ _ (SXX.out _ hbn) (fun hHeld => ?_)
            clear hK K
            have hc := S03_1.out (g0, W.heap.size, v0, e1) _ ⟨hbn, Nat.le_trans fe hbl.size, Go.heap_alloc_new W _, Cat.dn fd0 hbl, fo0⟩
            simp only [putAll, Act.put, List.setIfInBounds_toArray, List.set_cons_zero, List.set_cons_succ] at hc
            refine norm_ (a' := ?_) ?_ ?_
            rotate_left
            · show Act.put _ (some 47) _ = _
              simp only [Act.put, List.setIfInBounds_toArray, List.set_cons_zero, List.set_cons_succ, i64_w, i32_w]
              rfl
            exact hc
        intro H_
        have S0_1 := Aside0.mk H_
        clear H_
        refine join_ 9 #[true, true, true, true, true, false, true, true, true, true, true, false, true, true, true, true, false, false, true, true, true, true, false, false, false, false, false] (fun s : Nat × Nat => [(29, .slice (some ⟨s.1, 0, none⟩) 2 2), (35, .slice (some ⟨s.2, 0, none⟩) 2 2)]) (fun s W_ => Below w3.drew.heap.size w3.drew W_ ∧ w3.heap.size ≤ W_.heap.size ∧ W_.heap[s.1]? = some (.cells #[.slice A0_0 l0_0.length c0_0, .slice A1_0 l1_0.length c1_0] 22 (0, 0)) ∧ W_.heap[s.2]? = some (.cells #[.slice A0_1 l0_1.length c0_1, .slice A1_1 l1_1.length c1_1] 22 (0, 0))) ?_ ?_
        · rintro ⟨g0, g1⟩ W ⟨hb, fe, fb0, fb1⟩
          refine norm_ (a' := ?_) ?_ ?_
          rotate_left
          · show putAll _ _ = _
            simp only [putAll, Act.put, List.setIfInBounds_toArray, List.set_cons_zero, List.set_cons_succ, i64_w, i32_w]
            rfl
          refine three_ (i := 5) (j := 16) (k := 22) (Ni := some 30) (Nj := some 41) (Nk := some 47) #[true, true, true, true, true, true, true, true, true, true, true, false, true, true, true, true, false, false, true, true, true, true, false, false, false, false, false] #[true, true, true, true, true, false, true, true, true, true, true, false, true, true, true, true, true, false, true, true, true, true, false, false, false, false, false] #[true, true, true, true, true, false, true, true, true, true, true, false, true, true, true, true, false, false, true, true, true, true, true, false, false, false, false] rfl rfl rfl rfl rfl rfl (three_of HT_.out (by kernel_rfl)) (by decide) (by decide) (by decide) (fun K hK => ?_) (fun K hK => ?_) (fun K hK => ?_)
          · refine goes_ Try.func24 (by kernel_rfl) rfl #[.slice (some ⟨g0, 0, none⟩) 2 2] (by rfl) rfl rfl (by (try simp only [List.map_toArray, List.map_cons, List.map_nil]); first | done | rfl) ?_
            have hbw := below_step HB0.out hb
            refine (slices_Concat.calls A0_0 A1_0 c0_0 c1_0 l0_0 l1_0 g0 W fb0 (Kd.C_below HR0_0.out hbw) HC0_0.out (Kd.C_below HR1_0.out hbw) HC1_0.out LL.out.1.1).mono ?_
            rintro e W2 ⟨v0, rfl, ho, hbl⟩
            rw [← HY0.out] at ho
            refine ⟨_, rfl, ?_⟩
            have hbn := below_step hb hbl
            refine hK.out _ _ (SXX.out _ hbn) (fun hHeld => ?_)
            clear hK K
            have hc := S01_1.out (g0, g1, v0, W2.heap.size) _ ⟨hbn, Nat.le_refl _, Cat.bt fb1 hbl, Cat.new ho hbw.size fe, Nat.le_trans fe hbl.size⟩
            simp only [putAll, Act.put, List.setIfInBounds_toArray, List.set_cons_zero, List.set_cons_succ] at hc
            refine norm_ (a' := ?_) ?_ ?_
            rotate_left
            · show Act.put _ (some 30) _ = _
              simp only [Act.put, List.setIfInBounds_toArray, List.set_cons_zero, List.set_cons_succ, i64_w, i32_w]
              rfl
            exact hc
          · refine value_ (w1 := ?_) (v := ?_) (by rfl) rfl ?_ ?_
            rotate_left 2
            · go_simp
              constructor
              · rfl
              · rfl
            have hbl := below_alloc (Below.refl W.heap.size W) (Obj.cells #[.slice A0_2 l0_2.length c0_2, .slice A1_2 l1_2.length c1_2] 22)
            have hbn := below_step hb hbl
            refine hK.out _ _ (SXX.out _ hbn) (fun hHeld => ?_)
            clear hK K
            have hc := S012_0.out (g0, g1, W.heap.size) _ ⟨hbn, Nat.le_trans fe hbl.size, Cat.bt fb0 hbl, Cat.bt fb1 hbl, Go.heap_alloc_new W _⟩
            simp only [putAll, Act.put, List.setIfInBounds_toArray, List.set_cons_zero, List.set_cons_succ] at hc
            refine norm_ (a' := ?_) ?_ ?_
            rotate_left
            · show Act.put _ (some 41) _ = _
              simp only [Act.put, List.setIfInBounds_toArray, List.set_cons_zero, List.set_cons_succ, i64_w, i32_w]
              rfl
            exact hc
          · refine value_ (w1 := ?_) (v := ?_) (by rfl) rfl ?_ ?_
            rotate_left 2
            · go_simp
              constructor
              · rfl
              · rfl
            have hbl := below_alloc (Below.refl W.heap.size W) (Obj.cells #[.slice A0_3 l0_3.length c0_3, .slice A1_3 l1_3.length c1_3] 22)
            have hbn := below_step hb hbl
            refine hK.out _ _ (SXX.out _ hbn) (fun hHeld => ?_)
            clear hK K
            have hc := S013_0.out (g0, g1, W.heap.size) _ ⟨hbn, Nat.le_trans fe hbl.size, Cat.bt fb0 hbl, Cat.bt fb1 hbl, Go.heap_alloc_new W _⟩
            simp only [putAll, Act.put, List.setIfInBounds_toArray, List.set_cons_zero, List.set_cons_succ] at hc
            refine norm_ (a' := ?_) ?_ ?_
            rotate_left
            · show Act.put _ (some 47) _ = _
              simp only [Act.put, List.setIfInBounds_toArray, List.set_cons_zero, List.set_cons_succ, i64_w, i32_w]
              rfl
            exact hc
        intro H_
        have S01_0 := Aside0.mk H_
        clear H_
        refine join_ 9 #[true, true, true, true, true, false, true, true, true, true, false, false, true, true, true, true, true, false, true, true, true, true, false, false, false, false, false] (fun s : Nat × Nat => [(29, .slice (some ⟨s.1, 0, none⟩) 2 2), (41, .slice (some ⟨s.2, 0, none⟩) 2 2)]) (fun s W_ => Below w3.drew.heap.size w3.drew W_ ∧ w3.heap.size ≤ W_.heap.size ∧ W_.heap[s.1]? = some (.cells #[.slice A0_0 l0_0.length c0_0, .slice A1_0 l1_0.length c1_0] 22 (0, 0)) ∧ W_.heap[s.2]? = some (.cells #[.slice A0_2 l0_2.length c0_2, .slice A1_2 l1_2.length c1_2] 22 (0, 0))) ?_ ?_
        · rintro ⟨g0, g2⟩ W ⟨hb, fe, fb0, fb2⟩
          refine norm_ (a' := ?_) ?_ ?_
          rotate_left
          · show putAll _ _ = _
            simp only [putAll, Act.put, List.setIfInBounds_toArray, List.set_cons_zero, List.set_cons_succ, i64_w, i32_w]
            rfl
          refine three_ (i := 5) (j := 10) (k := 22) (Ni := some 30) (Nj := some 35) (Nk := some 47) #[true, true, true, true, true, true, true, true, true, true, false, false, true, true, true, true, true, false, true, true, true, true, false, false, false, false, false] #[true, true, true, true, true, false, true, true, true, true, true, false, true, true, true, true, true, false, true, true, true, true, false, false, false, false, false] #[true, true, true, true, true, false, true, true, true, true, false, false, true, true, true, true, true, false, true, true, true, true, true, false, false, false, false] rfl rfl rfl rfl rfl rfl (three_of HT_.out (by kernel_rfl)) (by decide) (by decide) (by decide) (fun K hK => ?_) (fun K hK => ?_) (fun K hK => ?_)
          · refine goes_ Try.func24 (by kernel_rfl) rfl #[.slice (some ⟨g0, 0, none⟩) 2 2] (by rfl) rfl rfl (by (try simp only [List.map_toArray, List.map_cons, List.map_nil]); first | done | rfl) ?_
            have hbw := below_step HB0.out hb
            refine (slices_Concat.calls A0_0 A1_0 c0_0 c1_0 l0_0 l1_0 g0 W fb0 (Kd.C_below HR0_0.out hbw) HC0_0.out (Kd.C_below HR1_0.out hbw) HC1_0.out LL.out.1.1).mono ?_
            rintro e W2 ⟨v0, rfl, ho, hbl⟩
            rw [← HY0.out] at ho
            refine ⟨_, rfl, ?_⟩
            have hbn := below_step hb hbl
            refine hK.out _ _ (SXX.out _ hbn) (fun hHeld => ?_)
            clear hK K
            have hc := S02_1.out (g0, g2, v0, W2.heap.size) _ ⟨hbn, Nat.le_refl _, Cat.bt fb2 hbl, Cat.new ho hbw.size fe, Nat.le_trans fe hbl.size⟩
            simp only [putAll, Act.put, List.setIfInBounds_toArray, List.set_cons_zero, List.set_cons_succ] at hc
            refine norm_ (a' := ?_) ?_ ?_
            rotate_left
            · show Act.put _ (some 30) _ = _
              simp only [Act.put, List.setIfInBounds_toArray, List.set_cons_zero, List.set_cons_succ, i64_w, i32_w]
              rfl
            exact hc
          · refine value_ (w1 := ?_) (v := ?_) (by rfl) rfl ?_ ?_
            rotate_left 2
            · go_simp
              constructor
              · rfl
              · rfl
            have hbl := below_alloc (Below.refl W.heap.size W) (Obj.cells #[.slice A0_1 l0_1.length c0_1, .slice A1_1 l1_1.length c1_1] 22)
            have hbn := below_step hb hbl
            refine hK.out _ _ (SXX.out _ hbn) (fun hHeld => ?_)
            clear hK K
            have hc := S012_0.out (g0, W.heap.size, g2) _ ⟨hbn, Nat.le_trans fe hbl.size, Cat.bt fb0 hbl, Go.heap_alloc_new W _, Cat.bt fb2 hbl⟩
            simp only [putAll, Act.put, List.setIfInBounds_toArray, List.set_cons_zero, List.set_cons_succ] at hc
            refine norm_ (a' := ?_) ?_ ?_
            rotate_left
            · show Act.put _ (some 35) _ = _
              simp only [Act.put, List.setIfInBounds_toArray, List.set_cons_zero, List.set_cons_succ, i64_w, i32_w]
              rfl
            exact hc
          · refine value_ (w1 := ?_) (v := ?_) (by rfl) rfl ?_ ?_
            rotate_left 2
            · go_simp
              constructor
              · rfl
              · rfl
            have hbl := below_alloc (Below.refl W.heap.size W) (Obj.cells #[.slice A0_3 l0_3.length c0_3, .slice A1_3 l1_3.length c1_3] 22)
            have hbn := below_step hb hbl
            refine hK.out _ _ (SXX.out _ hbn) (fun hHeld => ?_)
            clear hK K
            have hc := S023_0.out (g0, g2, W.heap.size) _ ⟨hbn, Nat.le_trans fe hbl.size, Cat.bt fb0 hbl, Cat.bt fb2 hbl, Go.heap_alloc_new W _⟩
            simp only [putAll, Act.put, List.setIfInBounds_toArray, List.set_cons_zero, List.set_cons_succ] at hc
            refine norm_ (a' := ?_) ?_ ?_
            rotate_left
            · show Act.put _ (some 47) _ = _
              simp only [Act.put, List.setIfInBounds_toArray, List.set_cons_zero, List.set_cons_succ, i64_w, i32_w]
              rfl
            exact hc
        intro H_
        have S02_0 := Aside0.mk H_
        clear H_
        refine join_ 9 #[true, true, true, true, true, false, true, true, true, true, false, false, true, true, true, true, false, false, true, true, true, true, true, false, false, false, false] (fun s : Nat × Nat => [(29, .slice (some ⟨s.1, 0, none⟩) 2 2), (47, .slice (some ⟨s.2, 0, none⟩) 2 2)]) (fun s W_ => Below w3.drew.heap.size w3.drew W_ ∧ w3.heap.size ≤ W_.heap.size ∧ W_.heap[s.1]? = some (.cells #[.slice A0_0 l0_0.length c0_0, .slice A1_0 l1_0.length c1_0] 22 (0, 0)) ∧ W_.heap[s.2]? = some (.cells #[.slice A0_3 l0_3.length c0_3, .slice A1_3 l1_3.length c1_3] 22 (0, 0))) ?_ ?_
        · rintro ⟨g0, g3⟩ W ⟨hb, fe, fb0, fb3⟩
          refine norm_ (a' := ?_) ?_ ?_
          rotate_left
          · show putAll _ _ = _
            simp only [putAll, Act.put, List.setIfInBounds_toArray, List.set_cons_zero, List.set_cons_succ, i64_w, i32_w]
            rfl
          refine three_ (i := 5) (j := 10) (k := 16) (Ni := some 30) (Nj := some 35) (Nk := some 41) #[true, true, true, true, true, true, true, true, true, true, false, false, true, true, true, true, false, false, true, true, true, true, true, false, false, false, false] #[true, true, true, true, true, false, true, true, true, true, true, false, true, true, true, true, false, false, true, true, true, true, true, false, false, false, false] #[true, true, true, true, true, false, true, true, true, true, false, false, true, true, true, true, true, false, true, true, true, true, true, false, false, false, false] rfl rfl rfl rfl rfl rfl (three_of HT_.out (by kernel_rfl)) (by decide) (by decide) (by decide) (fun K hK => ?_) (fun K hK => ?_) (fun K hK => ?_)
          · refine goes_ Try.func24 (by kernel_rfl) rfl #[.slice (some ⟨g0, 0, none⟩) 2 2] (by rfl) rfl rfl (by (try simp only [List.map_toArray, List.map_cons, List.map_nil]); first | done | rfl) ?_
            have hbw := below_step HB0.out hb
            refine (slices_Concat.calls A0_0 A1_0 c0_0 c1_0 l0_0 l1_0 g0 W fb0 (Kd.C_below HR0_0.out hbw) HC0_0.out (Kd.C_below HR1_0.out hbw) HC1_0.out LL.out.1.1).mono ?_
            rintro e W2 ⟨v0, rfl, ho, hbl⟩
            rw [← HY0.out] at ho
            refine ⟨_, rfl, ?_⟩
            have hbn := below_step hb hbl
            refine hK.out _ _ (SXX.out _ hbn) (fun hHeld => ?_)
            clear hK K
            have hc := S03_1.out (g0, g3, v0, W2.heap.size) _ ⟨hbn, Nat.le_refl _, Cat.bt fb3 hbl, Cat.new ho hbw.size fe, Nat.le_trans fe hbl.size⟩
            simp only [putAll, Act.put, List.setIfInBounds_toArray, List.set_cons_zero, List.set_cons_succ] at hc
            refine norm_ (a' := ?_) ?_ ?_
            rotate_left
            · show Act.put _ (some 30) _ = _
              simp only [Act.put, List.setIfInBounds_toArray, List.set_cons_zero, List.set_cons_succ, i64_w, i32_w]
              rfl
            exact hc
          · refine value_ (w1 := ?_) (v := ?_) (by rfl) rfl ?_ ?_
            rotate_left 2
            · go_simp
              constructor
              · rfl
              · rfl
            have hbl := below_alloc (Below.refl W.heap.size W) (Obj.cells #[.slice A0_1 l0_1.length c0_1, .slice A1_1 l1_1.length c1_1] 22)
            have hbn := below_step hb hbl
            refine hK.out _ _ (SXX.out _ hbn) (fun hHeld => ?_)
            clear hK K
            have hc := S013_0.out (g0, W.heap.size, g3) _ ⟨hbn, Nat.le_trans fe hbl.size, Cat.bt fb0 hbl, Go.heap_alloc_new W _, Cat.bt fb3 hbl⟩
            simp only [putAll, Act.put, List.setIfInBounds_toArray, List.set_cons_zero, List.set_cons_succ] at hc
            refine norm_ (a' := ?_) ?_ ?_
            rotate_left
            · show Act.put _ (some 35) _ = _
              simp only [Act.put, List.setIfInBounds_toArray, List.set_cons_zero, List.set_cons_succ, i64_w, i32_w]
              rfl
            exact hc
          · refine value_ (w1 := ?_) (v := ?_) (by rfl) rfl ?_ ?_
            rotate_left 2
            · go_simp
              constructor
              · rfl
              · rfl
            have hbl := below_alloc (Below.refl W.heap.size W) (Obj.cells #[.slice A0_2 l0_2.length c0_2, .slice A1_2 l1_2.length c1_2] 22)
            have hbn := below_step hb hbl
            refine hK.out _ _ (SXX.out _ hbn) (fun hHeld => ?_)
            clear hK K
            have hc := S023_0.out (g0, W.heap.size, g3) _ ⟨hbn, Nat.le_trans fe hbl.size, Cat.bt fb0 hbl, Go.heap_alloc_new W _, Cat.bt fb3 hbl⟩
            simp only [putAll, Act.put, List.setIfInBounds_toArray, List.set_cons_zero, List.set_cons_succ] at hc
            refine norm_ (a' := ?_) ?_ ?_
            rotate_left
            · show Act.put _ (some 41) _ = _
              simp only [Act.put, List.setIfInBounds_toArray, List.set_cons_zero, List.set_cons_succ, i64_w, i32_w]
              rfl
            exact hc
        intro H_
        have S03_0 := Aside0.mk H_
        clear H_
        refine join_ 9 #[true, true, true, true, false, false, true, true, true, true, true, false, true, true, true, true, true, false, true, true, true, true, false, false, false, false, false] (fun s : Nat × Nat => [(35, .slice (some ⟨s.1, 0, none⟩) 2 2), (41, .slice (some ⟨s.2, 0, none⟩) 2 2)]) (fun s W_ => Below w3.drew.heap.size w3.drew W_ ∧ w3.heap.size ≤ W_.heap.size ∧ W_.heap[s.1]? = some (.cells #[.slice A0_1 l0_1.length c0_1, .slice A1_1 l1_1.length c1_1] 22 (0, 0)) ∧ W_.heap[s.2]? = some (.cells #[.slice A0_2 l0_2.length c0_2, .slice A1_2 l1_2.length c1_2] 22 (0, 0))) ?_ ?_
        · rintro ⟨g1, g2⟩ W ⟨hb, fe, fb1, fb2⟩
          refine norm_ (a' := ?_) ?_ ?_
          rotate_left
          · show putAll _ _ = _
            simp only [putAll, Act.put, List.setIfInBounds_toArray, List.set_cons_zero, List.set_cons_succ, i64_w, i32_w]
            rfl
          refine two_ (i := 4) (j := 22) (Ni := some 29) (Nj := some 47) #[true, true, true, true, true, false, true, true, true, true, true, false, true, true, true, true, true, false, true, true, true, true, false, false, false, false, false] #[true, true, true, true, false, false, true, true, true, true, true, false, true, true, true, true, true, false, true, true, true, true, true, false, false, false, false] rfl rfl rfl rfl (two_of HT_.out (by kernel_rfl)) (by decide) (by decide) (fun K hK => ?_) (fun K hK => ?_)
          · refine value_ (w1 := ?_) (v := ?_) (by rfl) rfl ?_ ?_
            rotate_left 2
            · go_simp
              constructor
              · rfl
              · rfl
            have hbl := below_alloc (Below.refl W.heap.size W) (Obj.cells #[.slice A0_0 l0_0.length c0_0, .slice A1_0 l1_0.length c1_0] 22)
            have hbn := below_step hb hbl
            refine hK.out _ _ (SXX.out _ hbn) (fun hHeld => ?_)
            clear hK K
            have hc := S012_0.out (W.heap.size, g1, g2) _ ⟨hbn, Nat.le_trans fe hbl.size, Go.heap_alloc_new W _, Cat.bt fb1 hbl, Cat.bt fb2 hbl⟩
            simp only [putAll, Act.put, List.setIfInBounds_toArray, List.set_cons_zero, List.set_cons_succ] at hc
            refine norm_ (a' := ?_) ?_ ?_
            rotate_left
            · show Act.put _ (some 29) _ = _
              simp only [Act.put, List.setIfInBounds_toArray, List.set_cons_zero, List.set_cons_succ, i64_w, i32_w]
              rfl
            exact hc
          · refine value_ (w1 := ?_) (v := ?_) (by rfl) rfl ?_ ?_
            rotate_left 2
            · go_simp
              constructor
              · rfl
              · rfl
            have hbl := below_alloc (Below.refl W.heap.size W) (Obj.cells #[.slice A0_3 l0_3.length c0_3, .slice A1_3 l1_3.length c1_3] 22)
            have hbn := below_step hb hbl
            refine hK.out _ _ (SXX.out _ hbn) (fun hHeld => ?_)
            clear hK K
            have hc := S123_0.out (g1, g2, W.heap.size) _ ⟨hbn, Nat.le_trans fe hbl.size, Cat.bt fb1 hbl, Cat.bt fb2 hbl, Go.heap_alloc_new W _⟩
            simp only [putAll, Act.put, List.setIfInBounds_toArray, List.set_cons_zero, List.set_cons_succ] at hc
            refine norm_ (a' := ?_) ?_ ?_
            rotate_left
            · show Act.put _ (some 47) _ = _
              simp only [Act.put, List.setIfInBounds_toArray, List.set_cons_zero, List.set_cons_succ, i64_w, i32_w]
              rfl
            exact hc
        intro H_
        have S12_0 := Aside0.mk H_
        clear H_
        refine join_ 9 #[true, true, true, true, false, false, true, true, true, true, true, false, true, true, true, true, false, false, true, true, true, true, true, false, false, false, false] (fun s : Nat × Nat => [(35, .slice (some ⟨s.1, 0, none⟩) 2 2), (47, .slice (some ⟨s.2, 0, none⟩) 2 2)]) (fun s W_ => Below w3.drew.heap.size w3.drew W_ ∧ w3.heap.size ≤ W_.heap.size ∧ W_.heap[s.1]? = some (.cells #[.slice A0_1 l0_1.length c0_1, .slice A1_1 l1_1.length c1_1] 22 (0, 0)) ∧ W_.heap[s.2]? = some (.cells #[.slice A0_3 l0_3.length c0_3, .slice A1_3 l1_3.length c1_3] 22 (0, 0))) ?_ ?_
        · rintro ⟨g1, g3⟩ W ⟨hb, fe, fb1, fb3⟩
          refine norm_ (a' := ?_) ?_ ?_
          rotate_left
          · show putAll _ _ = _
            simp only [putAll, Act.put, List.setIfInBounds_toArray, List.set_cons_zero, List.set_cons_succ, i64_w, i32_w]
            rfl
          refine two_ (i := 4) (j := 16) (Ni := some 29) (Nj := some 41) #[true, true, true, true, true, false, true, true, true, true, true, false, true, true, true, true, false, false, true, true, true, true, true, false, false, false, false] #[true, true, true, true, false, false, true, true, true, true, true, false, true, true, true, true, true, false, true, true, true, true, true, false, false, false, false] rfl rfl rfl rfl (two_of HT_.out (by kernel_rfl)) (by decide) (by decide) (fun K hK => ?_) (fun K hK => ?_)
          · refine value_ (w1 := ?_) (v := ?_) (by rfl) rfl ?_ ?_
            rotate_left 2
            · go_simp
              constructor
              · rfl
              · rfl
            have hbl := below_alloc (Below.refl W.heap.size W) (Obj.cells #[.slice A0_0 l0_0.length c0_0, .slice A1_0 l1_0.length c1_0] 22)
            have hbn := below_step hb hbl
            refine hK.out _ _ (SXX.out _ hbn) (fun hHeld => ?_)
            clear hK K
            have hc := S013_0.out (W.heap.size, g1, g3) _ ⟨hbn, Nat.le_trans fe hbl.size, Go.heap_alloc_new W _, Cat.bt fb1 hbl, Cat.bt fb3 hbl⟩
            simp only [putAll, Act.put, List.setIfInBounds_toArray, List.set_cons_zero, List.set_cons_succ] at hc
            refine norm_ (a' := ?_) ?_ ?_
            rotate_left
            · show Act.put _ (some 29) _ = _
              simp only [Act.put, List.setIfInBounds_toArray, List.set_cons_zero, List.set_cons_succ, i64_w, i32_w]
              rfl
            exact hc
          · refine value_ (w1 := ?_) (v := ?_) (by rfl) rfl ?_ ?_
            rotate_left 2
            · go_simp
              constructor
              · rfl
              · rfl
            have hbl := below_alloc (Below.refl W.heap.size W) (Obj.cells #[.slice A0_2 l0_2.length c0_2, .slice A1_2 l1_2.length c1_2] 22)
            have hbn := below_step hb hbl
            refine hK.out _ _ (SXX.out _ hbn) (fun hHeld => ?_)
            clear hK K
            have hc := S123_0.out (g1, W.heap.size, g3) _ ⟨hbn, Nat.le_trans fe hbl.size, Cat.bt fb1 hbl, Go.heap_alloc_new W _, Cat.bt fb3 hbl⟩
            simp only [putAll, Act.put, List.setIfInBounds_toArray, List.set_cons_zero, List.set_cons_succ] at hc
            refine norm_ (a' := ?_) ?_ ?_
            rotate_left
            · show Act.put _ (some 41) _ = _
              simp only [Act.put, List.setIfInBounds_toArray, List.set_cons_zero, List.set_cons_succ, i64_w, i32_w]
              rfl
            exact hc
        intro H_
        have S13_0 := Aside0.mk H_
        clear H_
        refine join_ 9 #[true, true, true, true, false, false, true, true, true, true, false, false, true, true, true, true, true, false, true, true, true, true, true, false, false, false, false] (fun s : Nat × Nat => [(41, .slice (some ⟨s.1, 0, none⟩) 2 2), (47, .slice (some ⟨s.2, 0, none⟩) 2 2)]) (fun s W_ => Below w3.drew.heap.size w3.drew W_ ∧ w3.heap.size ≤ W_.heap.size ∧ W_.heap[s.1]? = some (.cells #[.slice A0_2 l0_2.length c0_2, .slice A1_2 l1_2.length c1_2] 22 (0, 0)) ∧ W_.heap[s.2]? = some (.cells #[.slice A0_3 l0_3.length c0_3, .slice A1_3 l1_3.length c1_3] 22 (0, 0))) ?_ ?_
        · rintro ⟨g2, g3⟩ W ⟨hb, fe, fb2, fb3⟩
          refine norm_ (a' := ?_) ?_ ?_
          rotate_left
          · show putAll _ _ = _
            simp only [putAll, Act.put, List.setIfInBounds_toArray, List.set_cons_zero, List.set_cons_succ, i64_w, i32_w]
            rfl
          refine two_ (i := 4) (j := 10) (Ni := some 29) (Nj := some 35) #[true, true, true, true, true, false, true, true, true, true, false, false, true, true, true, true, true, false, true, true, true, true, true, false, false, false, false] #[true, true, true, true, false, false, true, true, true, true, true, false, true, true, true, true, true, false, true, true, true, true, true, false, false, false, false] rfl rfl rfl rfl (two_of HT_.out (by kernel_rfl)) (by decide) (by decide) (fun K hK => ?_) (fun K hK => ?_)
          · refine value_ (w1 := ?_) (v := ?_) (by rfl) rfl ?_ ?_
            rotate_left 2
            · go_simp
              constructor
              · rfl
              · rfl
            have hbl := below_alloc (Below.refl W.heap.size W) (Obj.cells #[.slice A0_0 l0_0.length c0_0, .slice A1_0 l1_0.length c1_0] 22)
            have hbn := below_step hb hbl
            refine hK.out _ _ (SXX.out _ hbn) (fun hHeld => ?_)
            clear hK K
            have hc := S023_0.out (W.heap.size, g2, g3) _ ⟨hbn, Nat.le_trans fe hbl.size, Go.heap_alloc_new W _, Cat.bt fb2 hbl, Cat.bt fb3 hbl⟩
            simp only [putAll, Act.put, List.setIfInBounds_toArray, List.set_cons_zero, List.set_cons_succ] at hc
            refine norm_ (a' := ?_) ?_ ?_
            rotate_left
            · show Act.put _ (some 29) _ = _
              simp only [Act.put, List.setIfInBounds_toArray, List.set_cons_zero, List.set_cons_succ, i64_w, i32_w]
              rfl
            exact hc
          · refine value_ (w1 := ?_) (v := ?_) (by rfl) rfl ?_ ?_
            rotate_left 2
            · go_simp
              constructor
              · rfl
              · rfl
            have hbl := below_alloc (Below.refl W.heap.size W) (Obj.cells #[.slice A0_1 l0_1.length c0_1, .slice A1_1 l1_1.length c1_1] 22)
            have hbn := below_step hb hbl
            refine hK.out _ _ (SXX.out _ hbn) (fun hHeld => ?_)
            clear hK K
            have hc := S123_0.out (W.heap.size, g2, g3) _ ⟨hbn, Nat.le_trans fe hbl.size, Go.heap_alloc_new W _, Cat.bt fb2 hbl, Cat.bt fb3 hbl⟩
            simp only [putAll, Act.put, List.setIfInBounds_toArray, List.set_cons_zero, List.set_cons_succ] at hc
            refine norm_ (a' := ?_) ?_ ?_
            rotate_left
            · show Act.put _ (some 35) _ = _
              simp only [Act.put, List.setIfInBounds_toArray, List.set_cons_zero, List.set_cons_succ, i64_w, i32_w]
              rfl
            exact hc
        intro H_
        have S23_0 := Aside0.mk H_
        clear H_
        refine join_ 10 #[true, true, true, true, true, false, true, true, true, true, false, false, true, true, true, true, false, false, true, true, true, true, false, false, false, false, false] (fun s : Nat => [(29, .slice (some ⟨s, 0, none⟩) 2 2)]) (fun s W_ => Below w3.drew.heap.size w3.drew W_ ∧ w3.heap.size ≤ W_.heap.size ∧ W_.heap[s]? = some (.cells #[.slice A0_0 l0_0.length c0_0, .slice A1_0 l1_0.length c1_0] 22 (0, 0))) ?_ ?_
        · rintro g0 W ⟨hb, fe, fb0⟩
          refine norm_ (a' := ?_) ?_ ?_
          rotate_left
          · show putAll _ _ = _
            simp only [putAll, Act.put, List.setIfInBounds_toArray, List.set_cons_zero, List.set_cons_succ, i64_w, i32_w]
            rfl
          refine four_ (i := 5) (j := 10) (k := 16) (m := 22) (Ni := some 30) (Nj := some 35) (Nk := some 41) (Nm := some 47) #[true, true, true, true, true, true, true, true, true, true, false, false, true, true, true, true, false, false, true, true, true, true, false, false, false, false, false] #[true, true, true, true, true, false, true, true, true, true, true, false, true, true, true, true, false, false, true, true, true, true, false, false, false, false, false] #[true, true, true, true, true, false, true, true, true, true, false, false, true, true, true, true, true, false, true, true, true, true, false, false, false, false, false] #[true, true, true, true, true, false, true, true, true, true, false, false, true, true, true, true, false, false, true, true, true, true, true, false, false, false, false] rfl rfl rfl rfl rfl rfl rfl rfl (four_of HT_.out (by kernel_rfl)) (by decide) (by decide) (by decide) (by decide) (fun K hK => ?_) (fun K hK => ?_) (fun K hK => ?_) (fun K hK => ?_)
          · refine goes_ Try.func24 (by kernel_rfl) rfl #[.slice (some ⟨g0, 0, none⟩) 2 2] (by rfl) rfl rfl (by (try simp only [List.map_toArray, List.map_cons, List.map_nil]); first | done | rfl) ?_
            have hbw := below_step HB0.out hb
            refine (slices_Concat.calls A0_0 A1_0 c0_0 c1_0 l0_0 l1_0 g0 W fb0 (Kd.C_below HR0_0.out hbw) HC0_0.out (Kd.C_below HR1_0.out hbw) HC1_0.out LL.out.1.1).mono ?_
            rintro e W2 ⟨v0, rfl, ho, hbl⟩
            rw [← HY0.out] at ho
            refine ⟨_, rfl, ?_⟩
            have hbn := below_step hb hbl
            refine hK.out _ _ (SXX.out _ hbn) (fun hHeld => ?_)
            clear hK K
            have hc := S0_1.out (g0, v0, W2.heap.size) _ ⟨hbn, Nat.le_refl _, Cat.new ho hbw.size fe, Nat.le_trans fe hbl.size⟩
            simp only [putAll, Act.put, List.setIfInBounds_toArray, List.set_cons_zero, List.set_cons_succ] at hc
            refine norm_ (a' := ?_) ?_ ?_
            rotate_left
            · show Act.put _ (some 30) _ = _
              simp only [Act.put, List.setIfInBounds_toArray, List.set_cons_zero, List.set_cons_succ, i64_w, i32_w]
              rfl
            exact hc
          · refine value_ (w1 := ?_) (v := ?_) (by rfl) rfl ?_ ?_
            rotate_left 2
            · go_simp
              constructor
              · rfl
              · rfl
            have hbl := below_alloc (Below.refl W.heap.size W) (Obj.cells #[.slice A0_1 l0_1.length c0_1, .slice A1_1 l1_1.length c1_1] 22)
            have hbn := below_step hb hbl
            refine hK.out _ _ (SXX.out _ hbn) (fun hHeld => ?_)
            clear hK K
            have hc := S01_0.out (g0, W.heap.size) _ ⟨hbn, Nat.le_trans fe hbl.size, Cat.bt fb0 hbl, Go.heap_alloc_new W _⟩
            simp only [putAll, Act.put, List.setIfInBounds_toArray, List.set_cons_zero, List.set_cons_succ] at hc
            refine norm_ (a' := ?_) ?_ ?_
            rotate_left
            · show Act.put _ (some 35) _ = _
              simp only [Act.put, List.setIfInBounds_toArray, List.set_cons_zero, List.set_cons_succ, i64_w, i32_w]
              rfl
            exact hc
          · refine value_ (w1 := ?_) (v := ?_) (by rfl) rfl ?_ ?_
            rotate_left 2
            · go_simp
              constructor
              · rfl
              · rfl
            have hbl := below_alloc (Below.refl W.heap.size W) (Obj.cells #[.slice A0_2 l0_2.length c0_2, .slice A1_2 l1_2.length c1_2] 22)
            have hbn := below_step hb hbl
            refine hK.out _ _ (SXX.out _ hbn) (fun hHeld => ?_)
            clear hK K
            have hc := S02_0.out (g0, W.heap.size) _ ⟨hbn, Nat.le_trans fe hbl.size, Cat.bt fb0 hbl, Go.heap_alloc_new W _⟩
            simp only [putAll, Act.put, List.setIfInBounds_toArray, List.set_cons_zero, List.set_cons_succ] at hc
            refine norm_ (a' := ?_) ?_ ?_
            rotate_left
            · show Act.put _ (some 41) _ = _
              simp only [Act.put, List.setIfInBounds_toArray, List.set_cons_zero, List.set_cons_succ, i64_w, i32_w]
              rfl
            exact hc
          · refine value_ (w1 := ?_) (v := ?_) (by rfl) rfl ?_ ?_
            rotate_left 2
            · go_simp
              constructor
              · rfl
              · rfl
            have hbl := below_alloc (Below.refl W.heap.size W) (Obj.cells #[.slice A0_3 l0_3.length c0_3, .slice A1_3 l1_3.length c1_3] 22)
            have hbn := below_step hb hbl
            refine hK.out _ _ (SXX.out _ hbn) (fun hHeld => ?_)
            clear hK K
            have hc := S03_0.out (g0, W.heap.size) _ ⟨hbn, Nat.le_trans fe hbl.size, Cat.bt fb0 hbl, Go.heap_alloc_new W _⟩
            simp only [putAll, Act.put, List.setIfInBounds_toArray, List.set_cons_zero, List.set_cons_succ] at hc
            refine norm_ (a' := ?_) ?_ ?_
            rotate_left
            · show Act.put _ (some 47) _ = _
              simp only [Act.put, List.setIfInBounds_toArray, List.set_cons_zero, List.set_cons_succ, i64_w, i32_w]
              rfl
            exact hc
        intro H_
        have S0_0 := Aside0.mk H_
        clear H_
        refine join_ 10 #[true, true, true, true, false, false, true, true, true, true, true, false, true, true, true, true, false, false, true, true, true, true, false, false, false, false, false] (fun s : Nat => [(35, .slice (some ⟨s, 0, none⟩) 2 2)]) (fun s W_ => Below w3.drew.heap.size w3.drew W_ ∧ w3.heap.size ≤ W_.heap.size ∧ W_.heap[s]? = some (.cells #[.slice A0_1 l0_1.length c0_1, .slice A1_1 l1_1.length c1_1] 22 (0, 0))) ?_ ?_
        · rintro g1 W ⟨hb, fe, fb1⟩
          refine norm_ (a' := ?_) ?_ ?_
          rotate_left
          · show putAll _ _ = _
            simp only [putAll, Act.put, List.setIfInBounds_toArray, List.set_cons_zero, List.set_cons_succ, i64_w, i32_w]
            rfl
          refine three_ (i := 4) (j := 16) (k := 22) (Ni := some 29) (Nj := some 41) (Nk := some 47) #[true, true, true, true, true, false, true, true, true, true, true, false, true, true, true, true, false, false, true, true, true, true, false, false, false, false, false] #[true, true, true, true, false, false, true, true, true, true, true, false, true, true, true, true, true, false, true, true, true, true, false, false, false, false, false] #[true, true, true, true, false, false, true, true, true, true, true, false, true, true, true, true, false, false, true, true, true, true, true, false, false, false, false] rfl rfl rfl rfl rfl rfl (three_of HT_.out (by kernel_rfl)) (by decide) (by decide) (by decide) (fun K hK => ?_) (fun K hK => ?_) (fun K hK => ?_)
          · refine value_ (w1 := ?_) (v := ?_) (by rfl) rfl ?_ ?_
            rotate_left 2
            · go_simp
              constructor
              · rfl
              · rfl
            have hbl := below_alloc (Below.refl W.heap.size W) (Obj.cells #[.slice A0_0 l0_0.length c0_0, .slice A1_0 l1_0.length c1_0] 22)
            have hbn := below_step hb hbl
            refine hK.out _ _ (SXX.out _ hbn) (fun hHeld => ?_)
            clear hK K
            have hc := S01_0.out (W.heap.size, g1) _ ⟨hbn, Nat.le_trans fe hbl.size, Go.heap_alloc_new W _, Cat.bt fb1 hbl⟩
            simp only [putAll, Act.put, List.setIfInBounds_toArray, List.set_cons_zero, List.set_cons_succ] at hc
            refine norm_ (a' := ?_) ?_ ?_
            rotate_left
            · show Act.put _ (some 29) _ = _
              simp only [Act.put, List.setIfInBounds_toArray, List.set_cons_zero, List.set_cons_succ, i64_w, i32_w]
              rfl
            exact hc
          · refine value_ (w1 := ?_) (v := ?_) (by rfl) rfl ?_ ?_
            rotate_left 2
            · go_simp
              constructor
              · rfl
              · rfl
            have hbl := below_alloc (Below.refl W.heap.size W) (Obj.cells #[.slice A0_2 l0_2.length c0_2, .slice A1_2 l1_2.length c1_2] 22)
            have hbn := below_step hb hbl
            refine hK.out _ _ (SXX.out _ hbn) (fun hHeld => ?_)
            clear hK K
            have hc := S12_0.out (g1, W.heap.size) _ ⟨hbn, Nat.le_trans fe hbl.size, Cat.bt fb1 hbl, Go.heap_alloc_new W _⟩
            simp only [putAll, Act.put, List.setIfInBounds_toArray, List.set_cons_zero, List.set_cons_succ] at hc
            refine norm_ (a' := ?_) ?_ ?_
            rotate_left
            · show Act.put _ (some 41) _ = _
              simp only [Act.put, List.setIfInBounds_toArray, List.set_cons_zero, List.set_cons_succ, i64_w, i32_w]
              rfl
            exact hc
          · refine value_ (w1 := ?_) (v := ?_) (by rfl) rfl ?_ ?_
            rotate_left 2
            · go_simp
              constructor
              · rfl
              · rfl
            have hbl := below_alloc (Below.refl W.heap.size W) (Obj.cells #[.slice A0_3 l0_3.length c0_3, .slice A1_3 l1_3.length c1_3] 22)
            have hbn := below_step hb hbl
            refine hK.out _ _ (SXX.out _ hbn) (fun hHeld => ?_)
            clear hK K
            have hc := S13_0.out (g1, W.heap.size) _ ⟨hbn, Nat.le_trans fe hbl.size, Cat.bt fb1 hbl, Go.heap_alloc_new W _⟩
            simp only [putAll, Act.put, List.setIfInBounds_toArray, List.set_cons_zero, List.set_cons_succ] at hc
            refine norm_ (a' := ?_) ?_ ?_
            rotate_left
            · show Act.put _ (some 47) _ = _
              simp only [Act.put, List.setIfInBounds_toArray, List.set_cons_zero, List.set_cons_succ, i64_w, i32_w]
              rfl
            exact hc
        intro H_
        have S1_0 := Aside0.mk H_
        clear H_
        refine join_ 10 #[true, true, true, true, false, false, true, true, true, true, false, false, true, true, true, true, true, false, true, true, true, true, false, false, false, false, false] (fun s : Nat => [(41, .slice (some ⟨s, 0, none⟩) 2 2)]) (fun s W_ => Below w3.drew.heap.size w3.drew W_ ∧ w3.heap.size ≤ W_.heap.size ∧ W_.heap[s]? = some (.cells #[.slice A0_2 l0_2.length c0_2, .slice A1_2 l1_2.length c1_2] 22 (0, 0))) ?_ ?_
        · rintro g2 W ⟨hb, fe, fb2⟩
          refine norm_ (a' := ?_) ?_ ?_
          rotate_left
          · show putAll _ _ = _
            simp only [putAll, Act.put, List.setIfInBounds_toArray, List.set_cons_zero, List.set_cons_succ, i64_w, i32_w]
            rfl
          refine three_ (i := 4) (j := 10) (k := 22) (Ni := some 29) (Nj := some 35) (Nk := some 47) #[true, true, true, true, true, false, true, true, true, true, false, false, true, true, true, true, true, false, true, true, true, true, false, false, false, false, false] #[true, true, true, true, false, false, true, true, true, true, true, false, true, true, true, true, true, false, true, true, true, true, false, false, false, false, false] #[true, true, true, true, false, false, true, true, true, true, false, false, true, true, true, true, true, false, true, true, true, true, true, false, false, false, false] rfl rfl rfl rfl rfl rfl (three_of HT_.out (by kernel_rfl)) (by decide) (by decide) (by decide) (fun K hK => ?_) (fun K hK => ?_) (fun K hK => ?_)
          · refine value_ (w1 := ?_) (v := ?_) (by rfl) rfl ?_ ?_
            rotate_left 2
            · go_simp
              constructor
              · rfl
              · rfl
            have hbl := below_alloc (Below.refl W.heap.size W) (Obj.cells #[.slice A0_0 l0_0.length c0_0, .slice A1_0 l1_0.length c1_0] 22)
            have hbn := below_step hb hbl
            refine hK.out _ _ (SXX.out _ hbn) (fun hHeld => ?_)
            clear hK K
            have hc := S02_0.out (W.heap.size, g2) _ ⟨hbn, Nat.le_trans fe hbl.size, Go.heap_alloc_new W _, Cat.bt fb2 hbl⟩
            simp only [putAll, Act.put, List.setIfInBounds_toArray, List.set_cons_zero, List.set_cons_succ] at hc
            refine norm_ (a' := ?_) ?_ ?_
            rotate_left
            · show Act.put _ (some 29) _ = _
              simp only [Act.put, List.setIfInBounds_toArray, List.set_cons_zero, List.set_cons_succ, i64_w, i32_w]
              rfl
            exact hc
          · refine value_ (w1 := ?_) (v := ?_) (by rfl) rfl ?_ ?_
            rotate_left 2
            · go_simp
              constructor
              · rfl
              · rfl
            have hbl := below_alloc (Below.refl W.heap.size W) (Obj.cells #[.slice A0_1 l0_1.length c0_1, .slice A1_1 l1_1.length c1_1] 22)
            have hbn := below_step hb hbl
            refine hK.out _ _ (SXX.out _ hbn) (fun hHeld => ?_)
            clear hK K
            have hc := S12_0.out (W.heap.size, g2) _ ⟨hbn, Nat.le_trans fe hbl.size, Go.heap_alloc_new W _, Cat.bt fb2 hbl⟩
            simp only [putAll, Act.put, List.setIfInBounds_toArray, List.set_cons_zero, List.set_cons_succ] at hc
            refine norm_ (a' := ?_) ?_ ?_
            rotate_left
            · show Act.put _ (some 35) _ = _
              simp only [Act.put, List.setIfInBounds_toArray, List.set_cons_zero, List.set_cons_succ, i64_w, i32_w]
              rfl
            exact hc
          · refine value_ (w1 := ?_) (v := ?_) (by rfl) rfl ?_ ?_
            rotate_left 2
            · go_simp
              constructor
              · rfl
              · rfl
            have hbl := below_alloc (Below.refl W.heap.size W) (Obj.cells #[.slice A0_3 l0_3.length c0_3, .slice A1_3 l1_3.length c1_3] 22)
            have hbn := below_step hb hbl
            refine hK.out _ _ (SXX.out _ hbn) (fun hHeld => ?_)
            clear hK K
            have hc := S23_0.out (g2, W.heap.size) _ ⟨hbn, Nat.le_trans fe hbl.size, Cat.bt fb2 hbl, Go.heap_alloc_new W _⟩
            simp only [putAll, Act.put, List.setIfInBounds_toArray, List.set_cons_zero, List.set_cons_succ] at hc
            refine norm_ (a' := ?_) ?_ ?_
            rotate_left
            · show Act.put _ (some 47) _ = _
              simp only [Act.put, List.setIfInBounds_toArray, List.set_cons_zero, List.set_cons_succ, i64_w, i32_w]
              rfl
            exact hc
        intro H_
        have S2_0 := Aside0.mk H_
        clear H_
        refine join_ 10 #[true, true, true, true, false, false, true, true, true, true, false, false, true, true, true, true, false, false, true, true, true, true, true, false, false, false, false] (fun s : Nat => [(47, .slice (some ⟨s, 0, none⟩) 2 2)]) (fun s W_ => Below w3.drew.heap.size w3.drew W_ ∧ w3.heap.size ≤ W_.heap.size ∧ W_.heap[s]? = some (.cells #[.slice A0_3 l0_3.length c0_3, .slice A1_3 l1_3.length c1_3] 22 (0, 0))) ?_ ?_
        · rintro g3 W ⟨hb, fe, fb3⟩
          refine norm_ (a' := ?_) ?_ ?_
          rotate_left
          · show putAll _ _ = _
            simp only [putAll, Act.put, List.setIfInBounds_toArray, List.set_cons_zero, List.set_cons_succ, i64_w, i32_w]
            rfl
          refine three_ (i := 4) (j := 10) (k := 16) (Ni := some 29) (Nj := some 35) (Nk := some 41) #[true, true, true, true, true, false, true, true, true, true, false, false, true, true, true, true, false, false, true, true, true, true, true, false, false, false, false] #[true, true, true, true, false, false, true, true, true, true, true, false, true, true, true, true, false, false, true, true, true, true, true, false, false, false, false] #[true, true, true, true, false, false, true, true, true, true, false, false, true, true, true, true, true, false, true, true, true, true, true, false, false, false, false] rfl rfl rfl rfl rfl rfl (three_of HT_.out (by kernel_rfl)) (by decide) (by decide) (by decide) (fun K hK => ?_) (fun K hK => ?_) (fun K hK => ?_)
          · refine value_ (w1 := ?_) (v := ?_) (by rfl) rfl ?_ ?_
            rotate_left 2
            · go_simp
              constructor
              · rfl
              · rfl
            have hbl := below_alloc (Below.refl W.heap.size W) (Obj.cells #[.slice A0_0 l0_0.length c0_0, .slice A1_0 l1_0.length c1_0] 22)
            have hbn := below_step hb hbl
            refine hK.out _ _ (SXX.out _ hbn) (fun hHeld => ?_)
            clear hK K
            have hc := S03_0.out (W.heap.size, g3) _ ⟨hbn, Nat.le_trans fe hbl.size, Go.heap_alloc_new W _, Cat.bt fb3 hbl⟩
            simp only [putAll, Act.put, List.setIfInBounds_toArray, List.set_cons_zero, List.set_cons_succ] at hc
            refine norm_ (a' := ?_) ?_ ?_
            rotate_left
            · show Act.put _ (some 29) _ = _
              simp only [Act.put, List.setIfInBounds_toArray, List.set_cons_zero, List.set_cons_succ, i64_w, i32_w]
              rfl
            exact hc
          · refine value_ (w1 := ?_) (v := ?_) (by rfl) rfl ?_ ?_
            rotate_left 2
            · go_simp
              constructor
              · rfl
              · rfl
            have hbl := below_alloc (Below.refl W.heap.size W) (Obj.cells #[.slice A0_1 l0_1.length c0_1, .slice A1_1 l1_1.length c1_1] 22)
            have hbn := below_step hb hbl
            refine hK.out _ _ (SXX.out _ hbn) (fun hHeld => ?_)
            clear hK K
            have hc := S13_0.out (W.heap.size, g3) _ ⟨hbn, Nat.le_trans fe hbl.size, Go.heap_alloc_new W _, Cat.bt fb3 hbl⟩
            simp only [putAll, Act.put, List.setIfInBounds_toArray, List.set_cons_zero, List.set_cons_succ] at hc
            refine norm_ (a' := ?_) ?_ ?_
            rotate_left
            · show Act.put _ (some 35) _ = _
              simp only [Act.put, List.setIfInBounds_toArray, List.set_cons_zero, List.set_cons_succ, i64_w, i32_w]
              rfl
            exact hc
          · refine value_ (w1 := ?_) (v := ?_) (by rfl) rfl ?_ ?_
            rotate_left 2
            · go_simp
              constructor
              · rfl
              · rfl
            have hbl := below_alloc (Below.refl W.heap.size W) (Obj.cells #[.slice A0_2 l0_2.length c0_2, .slice A1_2 l1_2.length c1_2] 22)
            have hbn := below_step hb hbl
            refine hK.out _ _ (SXX.out _ hbn) (fun hHeld => ?_)
            clear hK K
            have hc := S23_0.out (W.heap.size, g3) _ ⟨hbn, Nat.le_trans fe hbl.size, Go.heap_alloc_new W _, Cat.bt fb3 hbl⟩
            simp only [putAll, Act.put, List.setIfInBounds_toArray, List.set_cons_zero, List.set_cons_succ] at hc
            refine norm_ (a' := ?_) ?_ ?_
            rotate_left
            · show Act.put _ (some 41) _ = _
              simp only [Act.put, List.setIfInBounds_toArray, List.set_cons_zero, List.set_cons_succ, i64_w, i32_w]
              rfl
            exact hc
        intro H_
        have S3_0 := Aside0.mk H_
        clear H_
        have hb := Below.refl w3.drew.heap.size w3.drew
        have fe := Nat.le_refl w3.heap.size
        have fe : w3.heap.size ≤ w3.drew.heap.size := Nat.le_refl _
        generalize hWW : w3.drew = W at hb fe ⊢
        rw [hWW] at SXX HB0 S0123_4 S0123_3 S012_3 S0123_2 S012_2 S013_2 S0123_1 S01_2 S012_1 S013_1 S023_1 S0123_0 S01_1 S02_1 S03_1 S012_0 S013_0 S023_0 S123_0 S0_1 S01_0 S02_0 S03_0 S12_0 S13_0 S23_0 S0_0 S1_0 S2_0 S3_0
        clear hWW hHeld
        refine four_ (i := 4) (j := 10) (k := 16) (m := 22) (Ni := some 29) (Nj := some 35) (Nk := some 41) (Nm := some 47) #[true, true, true, true, true, false, true, true, true, true, false, false, true, true, true, true, false, false, true, true, true, true, false, false, false, false, false] #[true, true, true, true, false, false, true, true, true, true, true, false, true, true, true, true, false, false, true, true, true, true, false, false, false, false, false] #[true, true, true, true, false, false, true, true, true, true, false, false, true, true, true, true, true, false, true, true, true, true, false, false, false, false, false] #[true, true, true, true, false, false, true, true, true, true, false, false, true, true, true, true, false, false, true, true, true, true, true, false, false, false, false] rfl rfl rfl rfl rfl rfl rfl rfl (four_of HT_.out (by kernel_rfl)) (by decide) (by decide) (by decide) (by decide) (fun K hK => ?_) (fun K hK => ?_) (fun K hK => ?_) (fun K hK => ?_)
        · refine value_ (w1 := ?_) (v := ?_) (by rfl) rfl ?_ ?_
          rotate_left 2
          · go_simp
            constructor
            · rfl
            · rfl
          have hbl := below_alloc (Below.refl W.heap.size W) (Obj.cells #[.slice A0_0 l0_0.length c0_0, .slice A1_0 l1_0.length c1_0] 22)
          have hbn := below_step hb hbl
          refine hK.out _ _ (SXX.out _ hbn) (fun hHeld => ?_)
          clear hK K
          have hc := S0_0.out (W.heap.size) _ ⟨hbn, Nat.le_trans fe hbl.size, Go.heap_alloc_new W _⟩
          simp only [putAll, Act.put, List.setIfInBounds_toArray, List.set_cons_zero, List.set_cons_succ] at hc
          refine norm_ (a' := ?_) ?_ ?_
          rotate_left
          · show Act.put _ (some 29) _ = _
            simp only [Act.put, List.setIfInBounds_toArray, List.set_cons_zero, List.set_cons_succ, i64_w, i32_w]
            rfl
          exact hc
        · refine value_ (w1 := ?_) (v := ?_) (by rfl) rfl ?_ ?_
          rotate_left 2
          · go_simp
            constructor
            · rfl
            · rfl
          have hbl := below_alloc (Below.refl W.heap.size W) (Obj.cells #[.slice A0_1 l0_1.length c0_1, .slice A1_1 l1_1.length c1_1] 22)
          have hbn := below_step hb hbl
          refine hK.out _ _ (SXX.out _ hbn) (fun hHeld => ?_)
          clear hK K
          have hc := S1_0.out (W.heap.size) _ ⟨hbn, Nat.le_trans fe hbl.size, Go.heap_alloc_new W _⟩
          simp only [putAll, Act.put, List.setIfInBounds_toArray, List.set_cons_zero, List.set_cons_succ] at hc
          refine norm_ (a' := ?_) ?_ ?_
          rotate_left
          · show Act.put _ (some 35) _ = _
            simp only [Act.put, List.setIfInBounds_toArray, List.set_cons_zero, List.set_cons_succ, i64_w, i32_w]
            rfl
          exact hc
        · refine value_ (w1 := ?_) (v := ?_) (by rfl) rfl ?_ ?_
          rotate_left 2
          · go_simp
            constructor
            · rfl
            · rfl
          have hbl := below_alloc (Below.refl W.heap.size W) (Obj.cells #[.slice A0_2 l0_2.length c0_2, .slice A1_2 l1_2.length c1_2] 22)
          have hbn := below_step hb hbl
          refine hK.out _ _ (SXX.out _ hbn) (fun hHeld => ?_)
          clear hK K
          have hc := S2_0.out (W.heap.size) _ ⟨hbn, Nat.le_trans fe hbl.size, Go.heap_alloc_new W _⟩
          simp only [putAll, Act.put, List.setIfInBounds_toArray, List.set_cons_zero, List.set_cons_succ] at hc
          refine norm_ (a' := ?_) ?_ ?_
          rotate_left
          · show Act.put _ (some 41) _ = _
            simp only [Act.put, List.setIfInBounds_toArray, List.set_cons_zero, List.set_cons_succ, i64_w, i32_w]
            rfl
          exact hc
        · refine value_ (w1 := ?_) (v := ?_) (by rfl) rfl ?_ ?_
          rotate_left 2
          · go_simp
            constructor
            · rfl
            · rfl
          have hbl := below_alloc (Below.refl W.heap.size W) (Obj.cells #[.slice A0_3 l0_3.length c0_3, .slice A1_3 l1_3.length c1_3] 22)
          have hbn := below_step hb hbl
          refine hK.out _ _ (SXX.out _ hbn) (fun hHeld => ?_)
          clear hK K
          have hc := S3_0.out (W.heap.size) _ ⟨hbn, Nat.le_trans fe hbl.size, Go.heap_alloc_new W _⟩
          simp only [putAll, Act.put, List.setIfInBounds_toArray, List.set_cons_zero, List.set_cons_succ] at hc
          refine norm_ (a' := ?_) ?_ ?_
          rotate_left
          · show Act.put _ (some 47) _ = _
            simp only [Act.put, List.setIfInBounds_toArray, List.set_cons_zero, List.set_cons_succ, i64_w, i32_w]
            rfl
          exact hc
end Go.Proofs.Ytjhkbgnfdpileaa.PFnExactJoinCases
