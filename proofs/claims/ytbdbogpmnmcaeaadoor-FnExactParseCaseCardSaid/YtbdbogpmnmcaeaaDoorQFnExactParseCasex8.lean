/- Written by hand and by programs of this session: spec.ParseCase. -/
import Derived.Test.YtbdbogpmnmcaeaaDoorQFnExactParseCasex7
namespace Go.Proofs.YtbdbogpmnmcaeaaDoor.PFnExactParseCase
open Go.RowKit Go.Proofs.YtbdbogpmnmcaeaaDoor.Tabs Go.Proofs.YtbdbogpmnmcaeaaDoorW.PrintWords Go.Proofs.YtbdbogpmnmcaeaaDoorW.PrintLast Go.Proofs.YtbdbogpmnmcaeaaDoorW.PrintMore Go.Proofs.YtbdbogpmnmcaeaaDoor.Hold
set_option linter.unusedVariables false
set_option linter.unusedSimpArgs false
/-! ### spec_ParseCase: function 37 -/
def spec_ParseCase.t (k : Nat) (a0 : ByteArray) (x0 x1 x2 x3 : List Int) : Option (List Int × List Int × List Int × List Int × Bool) :=
  (spec_l2Good.f k x0 x1 x2 x3).bind fun g => if g = true then (spec_l2Text.f k x0 x1 x2 x3).bind fun t => if t.toList = a0.toList then some (x0, x1, x2, x3, true) else some ([], [], [], [], false) else some ([], [], [], [], false)
def spec_ParseCase.l (k : Nat) (a0 : ByteArray) (ws : List ByteArray) : Nat → Int → List Int → List Int → List Int → List Int → Option (List Int × List Int × List Int × List Int × Bool)
  | 0, _, _, _, _, _ => none
  | d + 1, i, x0, x1, x2, x3 => if i < (ws.length : Int) ∧ i ≤ 8 then (spec_l2Read.f k (rdOf ByteArray.empty ws i)).bind fun r => if r.2 = true then spec_ParseCase.l k a0 ws d (i + 1) (x0 ++ [rd r.1 0]) (x1 ++ [rd r.1 1]) (x2 ++ [rd r.1 2]) (x3 ++ [rd r.1 3]) else some ([], [], [], [], false) else spec_ParseCase.t k a0 x0 x1 x2 x3
def spec_ParseCase.f (k : Nat) (a0 : ByteArray) : Option (List Int × List Int × List Int × List Int × Bool) :=
  if a0.toList = ([110, 111, 110, 101] : List UInt8) then some ([], [], [], [], true) else (spec_l1Split.f k a0 32).bind fun ws => spec_ParseCase.l k a0 ws 10 0 [] [] [] []
theorem R_slice0 {W : World} {B : Nat} {ok : Nat → Prop} {v : Value} (h : Kd.R (Kd.int .i64) 3 W B ok v []) : ∃ A c, v = .slice A 0 c := Kd.R_slice h
theorem Fam.nil4 (W : World) (B : Nat) : Fam W B [(.slice none 0 0, []), (.slice none 0 0, []), (.slice none 0 0, []), (.slice none 0 0, [])] := by
  have hp : ∀ (i : Nat) (p : Value × List Int), ([(.slice none 0 0, []), (.slice none 0 0, []), (.slice none 0 0, []), (.slice none 0 0, [])] : List (Value × List Int))[i]? = some p → p = (.slice none 0 0, []) := by
    intro i p e
    match i with
    | 0 | 1 | 2 | 3 => simpa using e.symm
    | n + 4 => simp at e
  refine ⟨fun i p e => ?_, fun i j p q e1 e2 _ k h1 _ => ?_⟩
  · rw [hp i p e]; exact Kd.R_nil _ _ _ _ _
  · rw [hp i p e1] at h1; simp [Value.ownBlock] at h1
theorem Fam.fr {W W' : World} {B : Nat} {L : List (Value × List Int)} (h : Fam W B L) {g t : Nat} {cells : Array Value} (hb : W.heap[g]? = some (.cells cells t (0, 0))) (ht : t ≠ 3) (f : Fr W W' g (g + 1)) : Fam W' B L :=
  ⟨fun i p e => fr_R (h.1 i p e) hb (fun q hq => by
    have : q = 3 := by simpa [Kd.int, Kd.scalar] using hq
    rw [this]; exact Ne.symm ht) f, h.2⟩
theorem spec_l2Read.len_l (k : Nat) (ps : List ByteArray) : ∀ (d : Nat) (i : Int) (o r : List Int) (b : Bool), o.length = 4 → spec_l2Read.l k ps d i o = some (r, b) → r.length = 4 := by
  intro d
  induction d with
  | zero => intro i o r b h e; simp only [spec_l2Read.l, Option.some.injEq, Prod.mk.injEq] at e; rw [← e.1]; exact h
  | succ d ih =>
    intro i o r b h e
    simp only [spec_l2Read.l] at e
    obtain ⟨x, _, e⟩ := Option.bind_eq_some_iff.mp e
    split at e
    · exact ih _ _ _ _ (by simpa using h) e
    · simp only [Option.some.injEq, Prod.mk.injEq] at e; rw [← e.1]; rfl
theorem spec_l2Read.len {k : Nat} {a0 : ByteArray} {r : List Int} {b : Bool} (h : spec_l2Read.f k a0 = some (r, b)) : r.length = 4 := by
  unfold spec_l2Read.f at h
  obtain ⟨x, _, e⟩ := Option.bind_eq_some_iff.mp h
  split at e
  · exact spec_l2Read.len_l k _ _ _ _ _ _ rfl e
  · simp only [Option.some.injEq, Prod.mk.injEq] at e; rw [← e.1]; rfl
theorem spec_l2Read.calls4 (k : Nat) (a0 : ByteArray) (m0 m1 m2 m3 : Int) (b : Bool) (w : World) (h : spec_l2Read.f k a0 = some ([m0, m1, m2, m3], b)) :
    Calls Tryd.prog 66 #[.string a0] w fun e w' => e = .returned (.tuple #[.agg #[.int .i64 m0, .int .i64 m1, .int .i64 m2, .int .i64 m3], .bool b]) ∧ Below w.heap.size w w' :=
  (spec_l2Read.calls k a0 _ b w h).mono (fun e w' h => ⟨h.1, h.2.2⟩)
set_option maxHeartbeats 8000000 in
set_option maxRecDepth 100000 in
theorem spec_ParseCase.calls (k : Nat) (a0 : ByteArray) (r1 r2 r3 r4 : List Int) (r5 : Bool) (w : World) (h : spec_ParseCase.f k a0 = some (r1, r2, r3, r4, r5)) :
    Calls Tryd.prog 37 #[.string a0] w fun e w' => ∃ v0_ v1_ v2_ v3_ : Value, e = .returned (.tuple #[.agg #[v0_, v1_, v2_, v3_], .bool r5]) ∧ Kd.R (Kd.int .i64) 3 w' w.heap.size (fun k_ => some k_ ≠ (v1_ : Value).ownBlock ∧ some k_ ≠ (v2_ : Value).ownBlock ∧ some k_ ≠ (v3_ : Value).ownBlock) v0_ r1 ∧ Kd.R (Kd.int .i64) 3 w' w.heap.size (fun k_ => some k_ ≠ (v0_ : Value).ownBlock ∧ some k_ ≠ (v2_ : Value).ownBlock ∧ some k_ ≠ (v3_ : Value).ownBlock) v1_ r2 ∧ Kd.R (Kd.int .i64) 3 w' w.heap.size (fun k_ => some k_ ≠ (v0_ : Value).ownBlock ∧ some k_ ≠ (v1_ : Value).ownBlock ∧ some k_ ≠ (v3_ : Value).ownBlock) v2_ r3 ∧ Kd.R (Kd.int .i64) 3 w' w.heap.size (fun k_ => some k_ ≠ (v0_ : Value).ownBlock ∧ some k_ ≠ (v1_ : Value).ownBlock ∧ some k_ ≠ (v2_ : Value).ownBlock) v3_ r4 ∧ Below w.heap.size w w' := by
  have hu47 := Tryd.underlying47
  have HB := Aside0.mk (Below.refl w.heap.size w)
  go_enter Tryd.func37, Tryd.ntmps37
  go_upto_region 1 with (first | (refine gate_dst (N := 2) rfl ?_; refine box_event ?hg (N := 2) ?hd (cs := #[.slice none 0 0, .slice none 0 0, .slice none 0 0, .slice none 0 0]) (t := 47) ?hr ?_; (case hd => rfl); (case hg => rfl); (case hr => first | (go_simp; done) | (go_simp; rfl)); intro G2 hg w1 hbox hb; have n0_ := Aside0.mk (below_step HB.out hb); have HG2 := Aside0.mk (show w.heap.size ≤ G2 by rw [hg]; exact HB.out.size); clear HB ; have HB := n0_; clear n0_ ; have BKG2 := Aside0.mk hbox; clear hb hbox hg))
  have HF := Aside0.mk (Fam.nil4 w1 w.heap.size)
  go_upto_region 2 with (first | (refine gate_dst (N := 9) rfl ?_; (refine Kd.R_lit (Kd.int .i64) _ 3 ?hg (N := 9) ?hd (xs := ([] : List Int)) (inner := []) (ok := fun _ => True) (okp := fun _ => True) ?hr ?hp (fun _ hk => hk) trivial (Below.refl _ _) (Nat.le_refl _) (by simp) ?_); (case hd => rfl); (case hg => rfl); (case hr => first | (go_simp; done) | (go_simp; rfl)); (case hp => exact (Reps.none _ _)); intro q_ W0 ho hb hg_ hn_; obtain ⟨Aq0, cq0, rfl⟩ := R_slice0 ho; clear hg_ hn_; have n0_ := Aside0.mk (below_step HB.out hb); have n1_ := Aside0.mk (show Fam W0 w.heap.size ([(.slice Aq0 0 cq0, []), (.slice none 0 0, []), (.slice none 0 0, []), (.slice none 0 0, [])] : List (Value × List Int)) from Fam.fill HF.out 0 rfl hb ho HB.out.size); have n2_ := Aside0.mk (blk_below BKG2.out hb); clear HB HF BKG2; have HB := n0_; have HF := n1_; have BKG2 := n2_; clear n0_ n1_ n2_ ho hb) | (refine gate_dst (N := 10) rfl ?_; (refine Kd.R_lit (Kd.int .i64) _ 3 ?hg (N := 10) ?hd (xs := ([] : List Int)) (inner := []) (ok := fun _ => True) (okp := fun _ => True) ?hr ?hp (fun _ hk => hk) trivial (Below.refl _ _) (Nat.le_refl _) (by simp) ?_); (case hd => rfl); (case hg => rfl); (case hr => first | (go_simp; done) | (go_simp; rfl)); (case hp => exact (Reps.none _ _)); intro q_ W1 ho hb hg_ hn_; obtain ⟨Aq1, cq1, rfl⟩ := R_slice0 ho; clear hg_ hn_; have n0_ := Aside0.mk (below_step HB.out hb); have n1_ := Aside0.mk (show Fam W1 w.heap.size ([(.slice Aq0 0 cq0, []), (.slice Aq1 0 cq1, []), (.slice none 0 0, []), (.slice none 0 0, [])] : List (Value × List Int)) from Fam.fill HF.out 1 rfl hb ho HB.out.size); have n2_ := Aside0.mk (blk_below BKG2.out hb); clear HB HF BKG2; have HB := n0_; have HF := n1_; have BKG2 := n2_; clear n0_ n1_ n2_ ho hb) | (refine gate_dst (N := 11) rfl ?_; (refine Kd.R_lit (Kd.int .i64) _ 3 ?hg (N := 11) ?hd (xs := ([] : List Int)) (inner := []) (ok := fun _ => True) (okp := fun _ => True) ?hr ?hp (fun _ hk => hk) trivial (Below.refl _ _) (Nat.le_refl _) (by simp) ?_); (case hd => rfl); (case hg => rfl); (case hr => first | (go_simp; done) | (go_simp; rfl)); (case hp => exact (Reps.none _ _)); intro q_ W2 ho hb hg_ hn_; obtain ⟨Aq2, cq2, rfl⟩ := R_slice0 ho; clear hg_ hn_; have n0_ := Aside0.mk (below_step HB.out hb); have n1_ := Aside0.mk (show Fam W2 w.heap.size ([(.slice Aq0 0 cq0, []), (.slice Aq1 0 cq1, []), (.slice Aq2 0 cq2, []), (.slice none 0 0, [])] : List (Value × List Int)) from Fam.fill HF.out 2 rfl hb ho HB.out.size); have n2_ := Aside0.mk (blk_below BKG2.out hb); clear HB HF BKG2; have HB := n0_; have HF := n1_; have BKG2 := n2_; clear n0_ n1_ n2_ ho hb) | (refine gate_dst (N := 12) rfl ?_; (refine Kd.R_lit (Kd.int .i64) _ 3 ?hg (N := 12) ?hd (xs := ([] : List Int)) (inner := []) (ok := fun _ => True) (okp := fun _ => True) ?hr ?hp (fun _ hk => hk) trivial (Below.refl _ _) (Nat.le_refl _) (by simp) ?_); (case hd => rfl); (case hg => rfl); (case hr => first | (go_simp; done) | (go_simp; rfl)); (case hp => exact (Reps.none _ _)); intro q_ W3 ho hb hg_ hn_; obtain ⟨Aq3, cq3, rfl⟩ := R_slice0 ho; clear hg_ hn_; have n0_ := Aside0.mk (below_step HB.out hb); have n1_ := Aside0.mk (show Fam W3 w.heap.size ([(.slice Aq0 0 cq0, []), (.slice Aq1 0 cq1, []), (.slice Aq2 0 cq2, []), (.slice Aq3 0 cq3, [])] : List (Value × List Int)) from Fam.fill HF.out 3 rfl hb ho HB.out.size); have n2_ := Aside0.mk (blk_below BKG2.out hb); clear HB HF BKG2; have HB := n0_; have HF := n1_; have BKG2 := n2_; clear n0_ n1_ n2_ ho hb) | (refine gate_dst (N := 4) rfl ?_; refine box_event ?hg (N := 4) ?hd (cs := #[.slice none 0 0, .slice none 0 0, .slice none 0 0, .slice none 0 0]) (t := 47) ?hr ?_; (case hd => rfl); (case hg => rfl); (case hr => first | (go_simp; done) | (go_simp; rfl)); intro G4 hg w3 hbox hb; have n0_ := Aside0.mk (below_step HB.out hb); have NE := Aside0.mk (show G2 < G4 by rw [hg]; exact blk_lt BKG2.out); have HG4 := Aside0.mk (show w.heap.size ≤ G4 by rw [hg]; exact HB.out.size); have m0_ := Aside0.mk (blk_below BKG2.out hb); have m1_ := Aside0.mk (Fam.below HF.out hb); clear HB BKG2 HF; have HB := n0_; have BKG2 := m0_; have HF := m1_; clear n0_ m0_ m1_; have BKG4 := Aside0.mk hbox; have hc4_0 : w3.cell? ⟨G4, 0, none⟩ = some (.slice none 0 0) := (blk_cell BKG4.out 0).trans rfl; have hf4_0 := blk_frozen BKG4.out 0; have hc4_1 : w3.cell? ⟨G4, 1, none⟩ = some (.slice none 0 0) := (blk_cell BKG4.out 1).trans rfl; have hf4_1 := blk_frozen BKG4.out 1; have hc4_2 : w3.cell? ⟨G4, 2, none⟩ = some (.slice none 0 0) := (blk_cell BKG4.out 2).trans rfl; have hf4_2 := blk_frozen BKG4.out 2; have hc4_3 : w3.cell? ⟨G4, 3, none⟩ = some (.slice none 0 0) := (blk_cell BKG4.out 3).trans rfl; have hf4_3 := blk_frozen BKG4.out 3; clear hb hbox hg))
  obtain ⟨S1, S2, S3⟩ := stored4 BKG4.out HB.out HG4.out (.slice Aq0 0 cq0) (.slice Aq1 0 cq1) (.slice Aq2 0 cq2) (.slice Aq3 0 cq3)
  have HBn := Aside0.mk S3
  have BK2n := Aside0.mk (fr_blk BKG2.out S2 (by have := NE.out; omega))
  have HFn := Aside0.mk (HF.out.fr BKG4.out (by decide) S2)
  have BK4n := Aside0.mk S1
  clear hc4_0 hf4_0 hc4_1 hf4_1 hc4_2 hf4_2 hc4_3 hf4_3
  clear HB BKG2 HF BKG4 S1 S2 S3
  have HB := HBn
  have BKG2 := BK2n
  have HF := HFn
  have BKG4 := BK4n
  clear HBn BK2n HFn BK4n
  generalize ((((w3.setCell ⟨G4, 0, none⟩ (.slice Aq0 0 cq0)).setCell ⟨G4, 1, none⟩ (.slice Aq1 0 cq1)).setCell ⟨G4, 2, none⟩ (.slice Aq2 0 cq2)).setCell ⟨G4, 3, none⟩ (.slice Aq3 0 cq3)) = w4 at HB BKG2 HF BKG4 ⊢
  have hne1 : G2 ≠ G4 := by have := NE.out; omega
  have hne2 : G4 ≠ G2 := by have := NE.out; omega
  by_cases cn : a0.toList = ([110, 111, 110, 101] : List UInt8)
  · have h2 : some (([] : List Int), ([] : List Int), ([] : List Int), ([] : List Int), true) = some (r1, r2, r3, r4, r5) := by unfold spec_ParseCase.f at h; rw [if_pos cn] at h; exact h
    simp only [Option.some.injEq, Prod.mk.injEq] at h2
    obtain ⟨rfl, rfl, rfl, rfl, rfl⟩ := h2
    have cn1 : (a0.toList == ([110, 111, 110, 101] : List UInt8)) = true := beq_iff_eq.mpr cn
    obtain ⟨T1, T2, T3⟩ := stored4 BKG2.out HB.out HG2.out (.slice Aq0 0 cq0) (.slice Aq1 0 cq1) (.slice Aq2 0 cq2) (.slice Aq3 0 cq3)
    have HE := HF.out.fr BKG2.out (by decide) T2
    have hc4_0 : w4.cell? ⟨G4, 0, none⟩ = some (.slice Aq0 0 cq0) := (blk_cell BKG4.out 0).trans rfl; have hf4_0 := blk_frozen BKG4.out 0; have hc4_1 : w4.cell? ⟨G4, 1, none⟩ = some (.slice Aq1 0 cq1) := (blk_cell BKG4.out 1).trans rfl; have hf4_1 := blk_frozen BKG4.out 1; have hc4_2 : w4.cell? ⟨G4, 2, none⟩ = some (.slice Aq2 0 cq2) := (blk_cell BKG4.out 2).trans rfl; have hf4_2 := blk_frozen BKG4.out 2; have hc4_3 : w4.cell? ⟨G4, 3, none⟩ = some (.slice Aq3 0 cq3) := (blk_cell BKG4.out 3).trans rfl; have hf4_3 := blk_frozen BKG4.out 3
    have hc2_0 : w4.cell? ⟨G2, 0, none⟩ = some (.slice none 0 0) := (blk_cell BKG2.out 0).trans rfl; have hf2_0 := blk_frozen BKG2.out 0; have hc2_1 : w4.cell? ⟨G2, 1, none⟩ = some (.slice none 0 0) := (blk_cell BKG2.out 1).trans rfl; have hf2_1 := blk_frozen BKG2.out 1; have hc2_2 : w4.cell? ⟨G2, 2, none⟩ = some (.slice none 0 0) := (blk_cell BKG2.out 2).trans rfl; have hf2_2 := blk_frozen BKG2.out 2; have hc2_3 : w4.cell? ⟨G2, 3, none⟩ = some (.slice none 0 0) := (blk_cell BKG2.out 3).trans rfl; have hf2_3 := blk_frozen BKG2.out 3
    go_wp2
    refine bodyPost_ret (results_ct rfl _ _ G2 47 #[.slice Aq0 0 cq0, .slice Aq1 0 cq1, .slice Aq2 0 cq2, .slice Aq3 0 cq3] (0, 0) _ rfl T1 hu47 rfl (by kernel_rfl)) rfl ?_
    exact ⟨_, _, _, _, rfl, R_okk (HE.get 0 rfl) (fun k_ hk => ⟨HE.dis 0 1 (by decide) rfl rfl k_ hk, HE.dis 0 2 (by decide) rfl rfl k_ hk, HE.dis 0 3 (by decide) rfl rfl k_ hk⟩), R_okk (HE.get 1 rfl) (fun k_ hk => ⟨HE.dis 1 0 (by decide) rfl rfl k_ hk, HE.dis 1 2 (by decide) rfl rfl k_ hk, HE.dis 1 3 (by decide) rfl rfl k_ hk⟩), R_okk (HE.get 2 rfl) (fun k_ hk => ⟨HE.dis 2 0 (by decide) rfl rfl k_ hk, HE.dis 2 1 (by decide) rfl rfl k_ hk, HE.dis 2 3 (by decide) rfl rfl k_ hk⟩), R_okk (HE.get 3 rfl) (fun k_ hk => ⟨HE.dis 3 0 (by decide) rfl rfl k_ hk, HE.dis 3 1 (by decide) rfl rfl k_ hk, HE.dis 3 2 (by decide) rfl rfl k_ hk⟩), T3⟩
  have h2 : (spec_l1Split.f k a0 32).bind (fun ws => spec_ParseCase.l k a0 ws 10 0 [] [] [] []) = some (r1, r2, r3, r4, r5) := by unfold spec_ParseCase.f at h; rw [if_neg cn] at h; exact h
  clear h
  have cn1 : (a0.toList == ([110, 111, 110, 101] : List UInt8)) = false := beq_eq_false_iff_ne.mpr cn
  clear cn
  obtain ⟨ws, hps, h⟩ := Option.bind_eq_some_iff.mp h2
  clear h2
  have HS := Aside0.mk hps
  clear hps
  go_wp2_with (first | (go_at_call 52; (with_reducible refine (spec_l1Split.calls k a0 32 ws _ HS.out).mono ?_); rintro e w5 ⟨v5, rfl, ho, hb⟩; obtain ⟨A5, c5, rfl⟩ := Kd.R_slice ho; have n0_ := Aside0.mk (below_step HB.out hb); have m0_ := Aside0.mk (blk_below BKG2.out hb); have m1_ := Aside0.mk (blk_below BKG4.out hb); have m2_ := Aside0.mk (Fam.below HF.out hb); clear HB BKG2 BKG4 HF; have HB := n0_; have BKG2 := m0_; have BKG4 := m1_; have HF := m2_; clear n0_ m0_ m1_ m2_; have HP := Aside0.mk ho; clear ho; clear hb))
  clear cn1
  go_loopg [6] 9 (fun kq v6 W => ∃ (i : Int) (v0 v1 v2 v3 : Value) (x0 x1 x2 x3 : List Int), v6 = .int .i64 i ∧ Aside0 (i + kq = 9 ∧ 0 ≤ i) ∧ Aside0 (spec_ParseCase.l k a0 ws (kq + 1) i x0 x1 x2 x3 = some (r1, r2, r3, r4, r5)) ∧ Aside0 ((x0.length ≤ 100 - kq ∧ x1.length ≤ 100 - kq) ∧ x2.length ≤ 100 - kq ∧ x3.length ≤ 100 - kq) ∧ Aside0 (W.heap[G4]? = some (.cells #[v0, v1, v2, v3] 47 (0, 0))) ∧ Aside0 (W.heap[G2]? = some (.cells #[.slice none 0 0, .slice none 0 0, .slice none 0 0, .slice none 0 0] 47 (0, 0))) ∧ Aside0 (Fam W w.heap.size ([(v0, x0), (v1, x1), (v2, x2), (v3, x3)] : List (Value × List Int))) ∧ Aside0 (Kd.string.R 9 W w4.heap.size (fun _ => True) (.slice A5 ws.length c5) ws) ∧ Aside0 (Below w.heap.size w W))
  case atStart => exact ⟨0, _, _, _, _, [], [], [], [], rfl, ⟨by omega⟩, ⟨h⟩, ⟨by simp⟩, BKG4, BKG2, HF, HP, HB⟩
  case round =>
    clear HB BKG4 BKG2 HP HF h HS
    obtain ⟨i, v0, v1, v2, v3, x0, x1, x2, x3, rfl, HI, HA, HL, BKG4, BKG2, HF, HP, HB⟩ := hrel
    have H := HA.out
    clear HA
    simp only [spec_ParseCase.l] at H
    by_cases cl : i < (ws.length : Int) ∧ i ≤ 8
    · rw [if_pos cl] at H
      cases gk with
      | zero => exfalso; have := HI.out; omega
      | succ k1 =>
      obtain ⟨⟨rr, okr⟩, A660, H⟩ := Option.bind_eq_some_iff.mp H
      obtain ⟨m0, m1, m2, m3, rfl⟩ := quad_of rr (spec_l2Read.len A660)
      have A66 := Aside0.mk A660
      clear A660
      have p1 : 0 ≤ i := HI.out.2
      have q1 : i < (ws.length : Int) := cl.1
      have q1b : decide (i < (ws.length : Int)) = true := decide_eq_true q1
      have q2b : decide (i ≤ 8) = true := decide_eq_true cl.2
      have hw : wrap64 (i + 1) = i + 1 := by have := cl.2; unfold wrap64; omega
      have HC := Aside0.mk cl
      clear cl
      obtain ⟨ad, ead, hx0⟩ := Kd.at_string (Kd.R_reads' HP.out).2.2 i p1 q1
      cases ead
      replace p1 := eq_true p1
      replace q1 := eq_true q1
      go_upto_region 9 with (first | (go_at_call 66; (with_reducible refine (spec_l2Read.calls4 k (rdOf ByteArray.empty ws i) m0 m1 m2 m3 _ _ A66.out).mono ?_); rintro e w6 ⟨rfl, hb⟩; have n0_ := Aside0.mk (below_step HB.out hb); have m0_ := Aside0.mk (blk_below BKG2.out hb); have m1_ := Aside0.mk (blk_below BKG4.out hb); have m2_ := Aside0.mk (Fam.below HF.out hb); have m3_ := Aside0.mk (Kd.R_below HP.out hb); clear HB BKG2 BKG4 HF HP; have HB := n0_; have BKG2 := m0_; have BKG4 := m1_; have HF := m2_; have HP := m3_; clear n0_ m0_ m1_ m2_ m3_; clear hb) | (refine gate_dst (N := 7) rfl ?_; refine box_event ?hg (N := 7) ?hd (cs := #[.int .i64 0, .int .i64 0, .int .i64 0, .int .i64 0]) (t := 79) ?hr ?_; (case hd => rfl); (case hg => rfl); (case hr => first | (go_simp; done) | (go_simp; rfl)); intro G7 hg w7 hbox hb; have n0_ := Aside0.mk (below_step HB.out hb); have NE7 := Aside0.mk (show G2 < G7 ∧ G4 < G7 by rw [hg]; exact ⟨blk_lt BKG2.out, blk_lt BKG4.out⟩); have HG7 := Aside0.mk (show w.heap.size ≤ G7 by rw [hg]; exact HB.out.size); have m0_ := Aside0.mk (blk_below BKG2.out hb); have m1_ := Aside0.mk (blk_below BKG4.out hb); have m2_ := Aside0.mk (Fam.below HF.out hb); have m3_ := Aside0.mk (Kd.R_below HP.out hb); clear HB BKG2 BKG4 HF HP; have HB := n0_; have BKG2 := m0_; have BKG4 := m1_; have HF := m2_; have HP := m3_; clear n0_ m0_ m1_ m2_ m3_; have BKG7 := Aside0.mk hbox; have hc7_0 : w7.cell? ⟨G7, 0, none⟩ = some (.int .i64 0) := (blk_cell BKG7.out 0).trans rfl; have hf7_0 := blk_frozen BKG7.out 0; have hc7_1 : w7.cell? ⟨G7, 1, none⟩ = some (.int .i64 0) := (blk_cell BKG7.out 1).trans rfl; have hf7_1 := blk_frozen BKG7.out 1; have hc7_2 : w7.cell? ⟨G7, 2, none⟩ = some (.int .i64 0) := (blk_cell BKG7.out 2).trans rfl; have hf7_2 := blk_frozen BKG7.out 2; have hc7_3 : w7.cell? ⟨G7, 3, none⟩ = some (.int .i64 0) := (blk_cell BKG7.out 3).trans rfl; have hf7_3 := blk_frozen BKG7.out 3; clear hb hbox hg))
      obtain ⟨S1, S2, S3⟩ := stored4 BKG7.out HB.out HG7.out (.int .i64 m0) (.int .i64 m1) (.int .i64 m2) (.int .i64 m3)
      have n0_ := Aside0.mk S3
      have n1_ := Aside0.mk (fr_blk BKG2.out S2 (by have := NE7.out; omega))
      have n2_ := Aside0.mk (fr_blk BKG4.out S2 (by have := NE7.out; omega))
      have n3_ := Aside0.mk (HF.out.fr BKG7.out (by decide) S2)
      have n4_ := Aside0.mk (fr_R HP.out BKG7.out (by decide) S2)
      have n5_ := Aside0.mk S1
      clear hc7_0 hf7_0 hc7_1 hf7_1 hc7_2 hf7_2 hc7_3 hf7_3
      clear HB BKG2 BKG4 HF HP BKG7 S1 S2 S3 hx0
      have HB := n0_
      have BKG2 := n1_
      have BKG4 := n2_
      have HF := n3_
      have HP := n4_
      have BKG7 := n5_
      clear n0_ n1_ n2_ n3_ n4_ n5_
      generalize ((((w7.setCell ⟨G7, 0, none⟩ (.int .i64 m0)).setCell ⟨G7, 1, none⟩ (.int .i64 m1)).setCell ⟨G7, 2, none⟩ (.int .i64 m2)).setCell ⟨G7, 3, none⟩ (.int .i64 m3)) = w8 at HB BKG2 BKG4 HF HP BKG7 ⊢
      cases okr with
      | false =>
        have H : some ((([] : List Int), ([] : List Int), ([] : List Int), ([] : List Int), false) : List Int × List Int × List Int × List Int × Bool) = some (r1, r2, r3, r4, r5) := H
        simp only [Option.some.injEq, Prod.mk.injEq] at H
        obtain ⟨rfl, rfl, rfl, rfl, rfl⟩ := H
        obtain ⟨T1, T2, T3⟩ := stored4 BKG2.out HB.out HG2.out (.slice none 0 0) (.slice none 0 0) (.slice none 0 0) (.slice none 0 0)
        have hc2_0 : w8.cell? ⟨G2, 0, none⟩ = some (.slice none 0 0) := (blk_cell BKG2.out 0).trans rfl; have hf2_0 := blk_frozen BKG2.out 0; have hc2_1 : w8.cell? ⟨G2, 1, none⟩ = some (.slice none 0 0) := (blk_cell BKG2.out 1).trans rfl; have hf2_1 := blk_frozen BKG2.out 1; have hc2_2 : w8.cell? ⟨G2, 2, none⟩ = some (.slice none 0 0) := (blk_cell BKG2.out 2).trans rfl; have hf2_2 := blk_frozen BKG2.out 2; have hc2_3 : w8.cell? ⟨G2, 3, none⟩ = some (.slice none 0 0) := (blk_cell BKG2.out 3).trans rfl; have hf2_3 := blk_frozen BKG2.out 3
        go_wp2
        refine bodyPost_ret (results_ct rfl _ _ G2 47 #[.slice none 0 0, .slice none 0 0, .slice none 0 0, .slice none 0 0] (0, 0) _ rfl T1 hu47 rfl (by kernel_rfl)) rfl ?_
        exact ⟨_, _, _, _, rfl, Kd.R_nil _ _ _ _ _, Kd.R_nil _ _ _ _ _, Kd.R_nil _ _ _ _ _, Kd.R_nil _ _ _ _ _, T3⟩
      | true =>
        have H : spec_ParseCase.l k a0 ws (k1 + 1) (i + 1) (x0 ++ [m0]) (x1 ++ [m1]) (x2 ++ [m2]) (x3 ++ [m3]) = some (r1, r2, r3, r4, r5) := H
        obtain ⟨y0, hy0⟩ : ∃ y : List Int, y = x0 ++ [m0] := ⟨_, rfl⟩
        rw [← hy0] at H
        have NY0 := Aside0.mk hy0
        clear hy0
        obtain ⟨y1, hy1⟩ : ∃ y : List Int, y = x1 ++ [m1] := ⟨_, rfl⟩
        rw [← hy1] at H
        have NY1 := Aside0.mk hy1
        clear hy1
        obtain ⟨y2, hy2⟩ : ∃ y : List Int, y = x2 ++ [m2] := ⟨_, rfl⟩
        rw [← hy2] at H
        have NY2 := Aside0.mk hy2
        clear hy2
        obtain ⟨y3, hy3⟩ : ∃ y : List Int, y = x3 ++ [m3] := ⟨_, rfl⟩
        rw [← hy3] at H
        have NY3 := Aside0.mk hy3
        clear hy3
        have H' := Aside0.mk H
        clear H
        go_upto_region 11 with fail
        have hc4_0 : w8.cell? ⟨G4, 0, none⟩ = some (v0) := (blk_cell BKG4.out 0).trans rfl; have hf4_0 := blk_frozen BKG4.out 0; have hc4_1 : w8.cell? ⟨G4, 1, none⟩ = some (v1) := (blk_cell BKG4.out 1).trans rfl; have hf4_1 := blk_frozen BKG4.out 1; have hc4_2 : w8.cell? ⟨G4, 2, none⟩ = some (v2) := (blk_cell BKG4.out 2).trans rfl; have hf4_2 := blk_frozen BKG4.out 2; have hc4_3 : w8.cell? ⟨G4, 3, none⟩ = some (v3) := (blk_cell BKG4.out 3).trans rfl; have hf4_3 := blk_frozen BKG4.out 3
        have hc7_0 : w8.cell? ⟨G7, 0, none⟩ = some (.int .i64 m0) := (blk_cell BKG7.out 0).trans rfl; have hf7_0 := blk_frozen BKG7.out 0; have hc7_1 : w8.cell? ⟨G7, 1, none⟩ = some (.int .i64 m1) := (blk_cell BKG7.out 1).trans rfl; have hf7_1 := blk_frozen BKG7.out 1; have hc7_2 : w8.cell? ⟨G7, 2, none⟩ = some (.int .i64 m2) := (blk_cell BKG7.out 2).trans rfl; have hf7_2 := blk_frozen BKG7.out 2; have hc7_3 : w8.cell? ⟨G7, 3, none⟩ = some (.int .i64 m3) := (blk_cell BKG7.out 3).trans rfl; have hf7_3 := blk_frozen BKG7.out 3
        go_upto_region 12 with (first | ((with_reducible refine gate_builtin (b := .append) (xs := #[.tmp 41, .tmp 44]) rfl ?_); at_builtin; refine Kd.R_append (Kd.int .i64) (w0 := w) w.heap.size rfl (.tmp 41) (.tmp 44) 45 3 (.int .i64 0) 8 rfl Tryd.underlying45 info3 rfl (by decide) (by omega) v0 x0 m0 [.int .i64 m0] (fun _ => True) (fun _ => False) rfl rfl ?aP (fun _ hk => hk.elim) ?aF ?aO ?aB ?aS ?aL ?_; (case aP => exact rfl); (case aB => exact HB.out); (case aF => exact (fun _ _ => trivial)); (case aO => exact HF.out.get 0 rfl); (case aS => exact HB.out.size); (case aL => have := HL.out; omega); intro t_ z0 ho hb hg hat; rw [← NY0.out] at ho; obtain ⟨At0, ct0, rfl⟩ := Kd.R_slice ho; have n0_ := Aside0.mk hb; have n1_ := Aside0.mk (blk_grown BKG2.out hg (Kd.R_ne (HF.out.get 0 rfl) BKG2.out (by decide))); have n2_ := Aside0.mk (blk_grown BKG4.out hg (Kd.R_ne (HF.out.get 0 rfl) BKG4.out (by decide))); have n5_ := Aside0.mk (blk_grown BKG7.out hg (Kd.R_ne (HF.out.get 0 rfl) BKG7.out (by decide))); have n4_ := Aside0.mk (Kd.R_over' HP.out (Kd.R_typed (HF.out.get 0 rfl)) (by decide) hg); have n3_ := Aside0.mk (show Fam z0 w.heap.size ([(.slice At0 y0.length ct0, y0), (v1, x1), (v2, x2), (v3, x3)] : List (Value × List Int)) from HF.out.replace 0 rfl ho hg hat); clear hc4_0 hf4_0 hc4_1 hf4_1 hc4_2 hf4_2 hc4_3 hf4_3; clear hc7_0 hf7_0 hc7_1 hf7_1 hc7_2 hf7_2 hc7_3 hf7_3; clear HB BKG2 BKG4 HF HP BKG7 ho hb hg hat; have HB := n0_; have BKG2 := n1_; have BKG4 := n2_; have HF := n3_; have HP := n4_; have BKG7 := n5_; clear n0_ n1_ n2_ n3_ n4_ n5_; have hc4_0 : z0.cell? ⟨G4, 0, none⟩ = some (v0) := (blk_cell BKG4.out 0).trans rfl; have hf4_0 := blk_frozen BKG4.out 0; have hc4_1 : z0.cell? ⟨G4, 1, none⟩ = some (v1) := (blk_cell BKG4.out 1).trans rfl; have hf4_1 := blk_frozen BKG4.out 1; have hc4_2 : z0.cell? ⟨G4, 2, none⟩ = some (v2) := (blk_cell BKG4.out 2).trans rfl; have hf4_2 := blk_frozen BKG4.out 2; have hc4_3 : z0.cell? ⟨G4, 3, none⟩ = some (v3) := (blk_cell BKG4.out 3).trans rfl; have hf4_3 := blk_frozen BKG4.out 3))
        have n0_ := Aside0.mk (below_set (j := 0) (v := .slice At0 y0.length ct0) HB.out HG4.out)
        have n1_ := Aside0.mk (blk_far (p := ⟨G4, 0, none⟩) BKG2.out hne1 (.slice At0 y0.length ct0))
        have n2_ := Aside0.mk (blk_put (cs' := #[.slice At0 y0.length ct0, v1, v2, v3]) BKG4.out 0 (.slice At0 y0.length ct0) rfl)
        have n3_ := Aside0.mk (HF.out.box BKG4.out (by decide) 0 (.slice At0 y0.length ct0))
        have n4_ := Aside0.mk (Kd.R_set HP.out BKG4.out (by decide) 0 (.slice At0 y0.length ct0))
        have n5_ := Aside0.mk (blk_far (p := ⟨G4, 0, none⟩) BKG7.out (by have := NE7.out; show G7 ≠ G4; omega) (.slice At0 y0.length ct0))
        clear hc4_0 hf4_0 hc4_1 hf4_1 hc4_2 hf4_2 hc4_3 hf4_3
        clear HB BKG2 BKG4 HF HP BKG7
        have HB := n0_
        have BKG2 := n1_
        have BKG4 := n2_
        have HF := n3_
        have HP := n4_
        have BKG7 := n5_
        clear n0_ n1_ n2_ n3_ n4_ n5_
        generalize z0.setCell ⟨G4, 0, none⟩ (.slice At0 y0.length ct0) = u1 at HB BKG2 BKG4 HF HP BKG7 ⊢
        have hc4_0 : u1.cell? ⟨G4, 0, none⟩ = some (.slice At0 y0.length ct0) := (blk_cell BKG4.out 0).trans rfl; have hf4_0 := blk_frozen BKG4.out 0; have hc4_1 : u1.cell? ⟨G4, 1, none⟩ = some (v1) := (blk_cell BKG4.out 1).trans rfl; have hf4_1 := blk_frozen BKG4.out 1; have hc4_2 : u1.cell? ⟨G4, 2, none⟩ = some (v2) := (blk_cell BKG4.out 2).trans rfl; have hf4_2 := blk_frozen BKG4.out 2; have hc4_3 : u1.cell? ⟨G4, 3, none⟩ = some (v3) := (blk_cell BKG4.out 3).trans rfl; have hf4_3 := blk_frozen BKG4.out 3
        have hc7_0 : u1.cell? ⟨G7, 0, none⟩ = some (.int .i64 m0) := (blk_cell BKG7.out 0).trans rfl; have hf7_0 := blk_frozen BKG7.out 0; have hc7_1 : u1.cell? ⟨G7, 1, none⟩ = some (.int .i64 m1) := (blk_cell BKG7.out 1).trans rfl; have hf7_1 := blk_frozen BKG7.out 1; have hc7_2 : u1.cell? ⟨G7, 2, none⟩ = some (.int .i64 m2) := (blk_cell BKG7.out 2).trans rfl; have hf7_2 := blk_frozen BKG7.out 2; have hc7_3 : u1.cell? ⟨G7, 3, none⟩ = some (.int .i64 m3) := (blk_cell BKG7.out 3).trans rfl; have hf7_3 := blk_frozen BKG7.out 3
        go_upto_region 13 with (first | ((with_reducible refine gate_builtin (b := .append) (xs := #[.tmp 48, .tmp 51]) rfl ?_); at_builtin; refine Kd.R_append (Kd.int .i64) (w0 := w) w.heap.size rfl (.tmp 48) (.tmp 51) 45 3 (.int .i64 0) 8 rfl Tryd.underlying45 info3 rfl (by decide) (by omega) v1 x1 m1 [.int .i64 m1] (fun _ => True) (fun _ => False) rfl rfl ?aP (fun _ hk => hk.elim) ?aF ?aO ?aB ?aS ?aL ?_; (case aP => exact rfl); (case aB => exact HB.out); (case aF => exact (fun _ _ => trivial)); (case aO => exact HF.out.get 1 rfl); (case aS => exact HB.out.size); (case aL => have := HL.out; omega); intro t_ z1 ho hb hg hat; rw [← NY1.out] at ho; obtain ⟨At1, ct1, rfl⟩ := Kd.R_slice ho; have n0_ := Aside0.mk hb; have n1_ := Aside0.mk (blk_grown BKG2.out hg (Kd.R_ne (HF.out.get 1 rfl) BKG2.out (by decide))); have n2_ := Aside0.mk (blk_grown BKG4.out hg (Kd.R_ne (HF.out.get 1 rfl) BKG4.out (by decide))); have n5_ := Aside0.mk (blk_grown BKG7.out hg (Kd.R_ne (HF.out.get 1 rfl) BKG7.out (by decide))); have n4_ := Aside0.mk (Kd.R_over' HP.out (Kd.R_typed (HF.out.get 1 rfl)) (by decide) hg); have n3_ := Aside0.mk (show Fam z1 w.heap.size ([(.slice At0 y0.length ct0, y0), (.slice At1 y1.length ct1, y1), (v2, x2), (v3, x3)] : List (Value × List Int)) from HF.out.replace 1 rfl ho hg hat); clear hc4_0 hf4_0 hc4_1 hf4_1 hc4_2 hf4_2 hc4_3 hf4_3; clear hc7_0 hf7_0 hc7_1 hf7_1 hc7_2 hf7_2 hc7_3 hf7_3; clear HB BKG2 BKG4 HF HP BKG7 ho hb hg hat; have HB := n0_; have BKG2 := n1_; have BKG4 := n2_; have HF := n3_; have HP := n4_; have BKG7 := n5_; clear n0_ n1_ n2_ n3_ n4_ n5_; have hc4_0 : z1.cell? ⟨G4, 0, none⟩ = some (.slice At0 y0.length ct0) := (blk_cell BKG4.out 0).trans rfl; have hf4_0 := blk_frozen BKG4.out 0; have hc4_1 : z1.cell? ⟨G4, 1, none⟩ = some (v1) := (blk_cell BKG4.out 1).trans rfl; have hf4_1 := blk_frozen BKG4.out 1; have hc4_2 : z1.cell? ⟨G4, 2, none⟩ = some (v2) := (blk_cell BKG4.out 2).trans rfl; have hf4_2 := blk_frozen BKG4.out 2; have hc4_3 : z1.cell? ⟨G4, 3, none⟩ = some (v3) := (blk_cell BKG4.out 3).trans rfl; have hf4_3 := blk_frozen BKG4.out 3))
        have n0_ := Aside0.mk (below_set (j := 1) (v := .slice At1 y1.length ct1) HB.out HG4.out)
        have n1_ := Aside0.mk (blk_far (p := ⟨G4, 1, none⟩) BKG2.out hne1 (.slice At1 y1.length ct1))
        have n2_ := Aside0.mk (blk_put (cs' := #[.slice At0 y0.length ct0, .slice At1 y1.length ct1, v2, v3]) BKG4.out 1 (.slice At1 y1.length ct1) rfl)
        have n3_ := Aside0.mk (HF.out.box BKG4.out (by decide) 1 (.slice At1 y1.length ct1))
        have n4_ := Aside0.mk (Kd.R_set HP.out BKG4.out (by decide) 1 (.slice At1 y1.length ct1))
        have n5_ := Aside0.mk (blk_far (p := ⟨G4, 1, none⟩) BKG7.out (by have := NE7.out; show G7 ≠ G4; omega) (.slice At1 y1.length ct1))
        clear hc4_0 hf4_0 hc4_1 hf4_1 hc4_2 hf4_2 hc4_3 hf4_3
        clear HB BKG2 BKG4 HF HP BKG7
        have HB := n0_
        have BKG2 := n1_
        have BKG4 := n2_
        have HF := n3_
        have HP := n4_
        have BKG7 := n5_
        clear n0_ n1_ n2_ n3_ n4_ n5_
        generalize z1.setCell ⟨G4, 1, none⟩ (.slice At1 y1.length ct1) = u2 at HB BKG2 BKG4 HF HP BKG7 ⊢
        have hc4_0 : u2.cell? ⟨G4, 0, none⟩ = some (.slice At0 y0.length ct0) := (blk_cell BKG4.out 0).trans rfl; have hf4_0 := blk_frozen BKG4.out 0; have hc4_1 : u2.cell? ⟨G4, 1, none⟩ = some (.slice At1 y1.length ct1) := (blk_cell BKG4.out 1).trans rfl; have hf4_1 := blk_frozen BKG4.out 1; have hc4_2 : u2.cell? ⟨G4, 2, none⟩ = some (v2) := (blk_cell BKG4.out 2).trans rfl; have hf4_2 := blk_frozen BKG4.out 2; have hc4_3 : u2.cell? ⟨G4, 3, none⟩ = some (v3) := (blk_cell BKG4.out 3).trans rfl; have hf4_3 := blk_frozen BKG4.out 3
        have hc7_0 : u2.cell? ⟨G7, 0, none⟩ = some (.int .i64 m0) := (blk_cell BKG7.out 0).trans rfl; have hf7_0 := blk_frozen BKG7.out 0; have hc7_1 : u2.cell? ⟨G7, 1, none⟩ = some (.int .i64 m1) := (blk_cell BKG7.out 1).trans rfl; have hf7_1 := blk_frozen BKG7.out 1; have hc7_2 : u2.cell? ⟨G7, 2, none⟩ = some (.int .i64 m2) := (blk_cell BKG7.out 2).trans rfl; have hf7_2 := blk_frozen BKG7.out 2; have hc7_3 : u2.cell? ⟨G7, 3, none⟩ = some (.int .i64 m3) := (blk_cell BKG7.out 3).trans rfl; have hf7_3 := blk_frozen BKG7.out 3
        go_upto_region 14 with (first | ((with_reducible refine gate_builtin (b := .append) (xs := #[.tmp 55, .tmp 58]) rfl ?_); at_builtin; refine Kd.R_append (Kd.int .i64) (w0 := w) w.heap.size rfl (.tmp 55) (.tmp 58) 45 3 (.int .i64 0) 8 rfl Tryd.underlying45 info3 rfl (by decide) (by omega) v2 x2 m2 [.int .i64 m2] (fun _ => True) (fun _ => False) rfl rfl ?aP (fun _ hk => hk.elim) ?aF ?aO ?aB ?aS ?aL ?_; (case aP => exact rfl); (case aB => exact HB.out); (case aF => exact (fun _ _ => trivial)); (case aO => exact HF.out.get 2 rfl); (case aS => exact HB.out.size); (case aL => have := HL.out; omega); intro t_ z2 ho hb hg hat; rw [← NY2.out] at ho; obtain ⟨At2, ct2, rfl⟩ := Kd.R_slice ho; have n0_ := Aside0.mk hb; have n1_ := Aside0.mk (blk_grown BKG2.out hg (Kd.R_ne (HF.out.get 2 rfl) BKG2.out (by decide))); have n2_ := Aside0.mk (blk_grown BKG4.out hg (Kd.R_ne (HF.out.get 2 rfl) BKG4.out (by decide))); have n5_ := Aside0.mk (blk_grown BKG7.out hg (Kd.R_ne (HF.out.get 2 rfl) BKG7.out (by decide))); have n4_ := Aside0.mk (Kd.R_over' HP.out (Kd.R_typed (HF.out.get 2 rfl)) (by decide) hg); have n3_ := Aside0.mk (show Fam z2 w.heap.size ([(.slice At0 y0.length ct0, y0), (.slice At1 y1.length ct1, y1), (.slice At2 y2.length ct2, y2), (v3, x3)] : List (Value × List Int)) from HF.out.replace 2 rfl ho hg hat); clear hc4_0 hf4_0 hc4_1 hf4_1 hc4_2 hf4_2 hc4_3 hf4_3; clear hc7_0 hf7_0 hc7_1 hf7_1 hc7_2 hf7_2 hc7_3 hf7_3; clear HB BKG2 BKG4 HF HP BKG7 ho hb hg hat; have HB := n0_; have BKG2 := n1_; have BKG4 := n2_; have HF := n3_; have HP := n4_; have BKG7 := n5_; clear n0_ n1_ n2_ n3_ n4_ n5_; have hc4_0 : z2.cell? ⟨G4, 0, none⟩ = some (.slice At0 y0.length ct0) := (blk_cell BKG4.out 0).trans rfl; have hf4_0 := blk_frozen BKG4.out 0; have hc4_1 : z2.cell? ⟨G4, 1, none⟩ = some (.slice At1 y1.length ct1) := (blk_cell BKG4.out 1).trans rfl; have hf4_1 := blk_frozen BKG4.out 1; have hc4_2 : z2.cell? ⟨G4, 2, none⟩ = some (v2) := (blk_cell BKG4.out 2).trans rfl; have hf4_2 := blk_frozen BKG4.out 2; have hc4_3 : z2.cell? ⟨G4, 3, none⟩ = some (v3) := (blk_cell BKG4.out 3).trans rfl; have hf4_3 := blk_frozen BKG4.out 3))
        have n0_ := Aside0.mk (below_set (j := 2) (v := .slice At2 y2.length ct2) HB.out HG4.out)
        have n1_ := Aside0.mk (blk_far (p := ⟨G4, 2, none⟩) BKG2.out hne1 (.slice At2 y2.length ct2))
        have n2_ := Aside0.mk (blk_put (cs' := #[.slice At0 y0.length ct0, .slice At1 y1.length ct1, .slice At2 y2.length ct2, v3]) BKG4.out 2 (.slice At2 y2.length ct2) rfl)
        have n3_ := Aside0.mk (HF.out.box BKG4.out (by decide) 2 (.slice At2 y2.length ct2))
        have n4_ := Aside0.mk (Kd.R_set HP.out BKG4.out (by decide) 2 (.slice At2 y2.length ct2))
        have n5_ := Aside0.mk (blk_far (p := ⟨G4, 2, none⟩) BKG7.out (by have := NE7.out; show G7 ≠ G4; omega) (.slice At2 y2.length ct2))
        clear hc4_0 hf4_0 hc4_1 hf4_1 hc4_2 hf4_2 hc4_3 hf4_3
        clear HB BKG2 BKG4 HF HP BKG7
        have HB := n0_
        have BKG2 := n1_
        have BKG4 := n2_
        have HF := n3_
        have HP := n4_
        have BKG7 := n5_
        clear n0_ n1_ n2_ n3_ n4_ n5_
        generalize z2.setCell ⟨G4, 2, none⟩ (.slice At2 y2.length ct2) = u3 at HB BKG2 BKG4 HF HP BKG7 ⊢
        have hc4_0 : u3.cell? ⟨G4, 0, none⟩ = some (.slice At0 y0.length ct0) := (blk_cell BKG4.out 0).trans rfl; have hf4_0 := blk_frozen BKG4.out 0; have hc4_1 : u3.cell? ⟨G4, 1, none⟩ = some (.slice At1 y1.length ct1) := (blk_cell BKG4.out 1).trans rfl; have hf4_1 := blk_frozen BKG4.out 1; have hc4_2 : u3.cell? ⟨G4, 2, none⟩ = some (.slice At2 y2.length ct2) := (blk_cell BKG4.out 2).trans rfl; have hf4_2 := blk_frozen BKG4.out 2; have hc4_3 : u3.cell? ⟨G4, 3, none⟩ = some (v3) := (blk_cell BKG4.out 3).trans rfl; have hf4_3 := blk_frozen BKG4.out 3
        have hc7_0 : u3.cell? ⟨G7, 0, none⟩ = some (.int .i64 m0) := (blk_cell BKG7.out 0).trans rfl; have hf7_0 := blk_frozen BKG7.out 0; have hc7_1 : u3.cell? ⟨G7, 1, none⟩ = some (.int .i64 m1) := (blk_cell BKG7.out 1).trans rfl; have hf7_1 := blk_frozen BKG7.out 1; have hc7_2 : u3.cell? ⟨G7, 2, none⟩ = some (.int .i64 m2) := (blk_cell BKG7.out 2).trans rfl; have hf7_2 := blk_frozen BKG7.out 2; have hc7_3 : u3.cell? ⟨G7, 3, none⟩ = some (.int .i64 m3) := (blk_cell BKG7.out 3).trans rfl; have hf7_3 := blk_frozen BKG7.out 3
        go_wp2_with (first | ((with_reducible refine gate_builtin (b := .append) (xs := #[.tmp 62, .tmp 65]) rfl ?_); at_builtin; refine Kd.R_append (Kd.int .i64) (w0 := w) w.heap.size rfl (.tmp 62) (.tmp 65) 45 3 (.int .i64 0) 8 rfl Tryd.underlying45 info3 rfl (by decide) (by omega) v3 x3 m3 [.int .i64 m3] (fun _ => True) (fun _ => False) rfl rfl ?aP (fun _ hk => hk.elim) ?aF ?aO ?aB ?aS ?aL ?_; (case aP => exact rfl); (case aB => exact HB.out); (case aF => exact (fun _ _ => trivial)); (case aO => exact HF.out.get 3 rfl); (case aS => exact HB.out.size); (case aL => have := HL.out; omega); intro t_ z3 ho hb hg hat; rw [← NY3.out] at ho; obtain ⟨At3, ct3, rfl⟩ := Kd.R_slice ho; have n0_ := Aside0.mk hb; have n1_ := Aside0.mk (blk_grown BKG2.out hg (Kd.R_ne (HF.out.get 3 rfl) BKG2.out (by decide))); have n2_ := Aside0.mk (blk_grown BKG4.out hg (Kd.R_ne (HF.out.get 3 rfl) BKG4.out (by decide))); have n5_ := Aside0.mk (blk_grown BKG7.out hg (Kd.R_ne (HF.out.get 3 rfl) BKG7.out (by decide))); have n4_ := Aside0.mk (Kd.R_over' HP.out (Kd.R_typed (HF.out.get 3 rfl)) (by decide) hg); have n3_ := Aside0.mk (show Fam z3 w.heap.size ([(.slice At0 y0.length ct0, y0), (.slice At1 y1.length ct1, y1), (.slice At2 y2.length ct2, y2), (.slice At3 y3.length ct3, y3)] : List (Value × List Int)) from HF.out.replace 3 rfl ho hg hat); clear hc4_0 hf4_0 hc4_1 hf4_1 hc4_2 hf4_2 hc4_3 hf4_3; clear hc7_0 hf7_0 hc7_1 hf7_1 hc7_2 hf7_2 hc7_3 hf7_3; clear HB BKG2 BKG4 HF HP BKG7 ho hb hg hat; have HB := n0_; have BKG2 := n1_; have BKG4 := n2_; have HF := n3_; have HP := n4_; have BKG7 := n5_; clear n0_ n1_ n2_ n3_ n4_ n5_; have hc4_0 : z3.cell? ⟨G4, 0, none⟩ = some (.slice At0 y0.length ct0) := (blk_cell BKG4.out 0).trans rfl; have hf4_0 := blk_frozen BKG4.out 0; have hc4_1 : z3.cell? ⟨G4, 1, none⟩ = some (.slice At1 y1.length ct1) := (blk_cell BKG4.out 1).trans rfl; have hf4_1 := blk_frozen BKG4.out 1; have hc4_2 : z3.cell? ⟨G4, 2, none⟩ = some (.slice At2 y2.length ct2) := (blk_cell BKG4.out 2).trans rfl; have hf4_2 := blk_frozen BKG4.out 2; have hc4_3 : z3.cell? ⟨G4, 3, none⟩ = some (v3) := (blk_cell BKG4.out 3).trans rfl; have hf4_3 := blk_frozen BKG4.out 3))
        go_roundg k1
        case measure => omega
        case rel =>
          have n0_ := Aside0.mk (below_set (j := 3) (v := .slice At3 y3.length ct3) HB.out HG4.out)
          have n1_ := Aside0.mk (blk_far (p := ⟨G4, 3, none⟩) BKG2.out hne1 (.slice At3 y3.length ct3))
          have n2_ := Aside0.mk (blk_put (cs' := #[.slice At0 y0.length ct0, .slice At1 y1.length ct1, .slice At2 y2.length ct2, .slice At3 y3.length ct3]) BKG4.out 3 (.slice At3 y3.length ct3) rfl)
          have n3_ := Aside0.mk (HF.out.box BKG4.out (by decide) 3 (.slice At3 y3.length ct3))
          have n4_ := Aside0.mk (Kd.R_set HP.out BKG4.out (by decide) 3 (.slice At3 y3.length ct3))
          have n5_ := Aside0.mk (blk_far (p := ⟨G4, 3, none⟩) BKG7.out (by have := NE7.out; show G7 ≠ G4; omega) (.slice At3 y3.length ct3))
          exact ⟨i + 1, _, _, _, _, _, _, _, _, by first | rfl | rw [hw], ⟨by have := HI.out; omega⟩, H', ⟨by have := HL.out; have := HI.out; rw [NY0.out, NY1.out, NY2.out, NY3.out]; simp only [List.length_append, List.length_singleton]; omega⟩, n2_, n1_, n3_, n4_, n0_⟩
    · rw [if_neg cl] at H
      unfold spec_ParseCase.t at H
      obtain ⟨Ax0, cx0, rfl⟩ := Kd.R_slice (HF.out.get 0 rfl)
      obtain ⟨Ax1, cx1, rfl⟩ := Kd.R_slice (HF.out.get 1 rfl)
      obtain ⟨Ax2, cx2, rfl⟩ := Kd.R_slice (HF.out.get 2 rfl)
      obtain ⟨Ax3, cx3, rfl⟩ := Kd.R_slice (HF.out.get 3 rfl)
      obtain ⟨gg, AG0, H⟩ := Option.bind_eq_some_iff.mp H
      have AG := Aside0.mk AG0
      clear AG0
      have hq : decide (i < (ws.length : Int)) = false ∨ (decide (i < (ws.length : Int)) = true ∧ decide (i ≤ 8) = false) := by
        by_cases c1 : i < (ws.length : Int)
        · exact .inr ⟨decide_eq_true c1, decide_eq_false (fun c2 => cl ⟨c1, c2⟩)⟩
        · exact .inl (decide_eq_false c1)
      clear cl
      have hc4_0 : wr.cell? ⟨G4, 0, none⟩ = some (.slice Ax0 x0.length cx0) := (blk_cell BKG4.out 0).trans rfl; have hf4_0 := blk_frozen BKG4.out 0; have hc4_1 : wr.cell? ⟨G4, 1, none⟩ = some (.slice Ax1 x1.length cx1) := (blk_cell BKG4.out 1).trans rfl; have hf4_1 := blk_frozen BKG4.out 1; have hc4_2 : wr.cell? ⟨G4, 2, none⟩ = some (.slice Ax2 x2.length cx2) := (blk_cell BKG4.out 2).trans rfl; have hf4_2 := blk_frozen BKG4.out 2; have hc4_3 : wr.cell? ⟨G4, 3, none⟩ = some (.slice Ax3 x3.length cx3) := (blk_cell BKG4.out 3).trans rfl; have hf4_3 := blk_frozen BKG4.out 3
      have hc2_0 : wr.cell? ⟨G2, 0, none⟩ = some (.slice none 0 0) := (blk_cell BKG2.out 0).trans rfl; have hf2_0 := blk_frozen BKG2.out 0; have hc2_1 : wr.cell? ⟨G2, 1, none⟩ = some (.slice none 0 0) := (blk_cell BKG2.out 1).trans rfl; have hf2_1 := blk_frozen BKG2.out 1; have hc2_2 : wr.cell? ⟨G2, 2, none⟩ = some (.slice none 0 0) := (blk_cell BKG2.out 2).trans rfl; have hf2_2 := blk_frozen BKG2.out 2; have hc2_3 : wr.cell? ⟨G2, 3, none⟩ = some (.slice none 0 0) := (blk_cell BKG2.out 3).trans rfl; have hf2_3 := blk_frozen BKG2.out 3
      cases gg with
      | false =>
        have H : some ((([] : List Int), ([] : List Int), ([] : List Int), ([] : List Int), false) : List Int × List Int × List Int × List Int × Bool) = some (r1, r2, r3, r4, r5) := H
        simp only [Option.some.injEq, Prod.mk.injEq] at H
        obtain ⟨rfl, rfl, rfl, rfl, rfl⟩ := H
        rcases hq with q1b | ⟨q1b, q2b⟩
        all_goals (
          go_wp2_with (first | (go_at_call 67; (with_reducible refine (spec_l2Good.calls k _ _ x0 _ _ x1 _ _ x2 _ _ x3 _ _ (Kd.R_reads' (HF.out.get 0 rfl)).2.2 (Kd.R_reads' (HF.out.get 0 rfl)).2.1 (Kd.R_reads' (HF.out.get 1 rfl)).2.2 (Kd.R_reads' (HF.out.get 1 rfl)).2.1 (Kd.R_reads' (HF.out.get 2 rfl)).2.2 (Kd.R_reads' (HF.out.get 2 rfl)).2.1 (Kd.R_reads' (HF.out.get 3 rfl)).2.2 (Kd.R_reads' (HF.out.get 3 rfl)).2.1 AG.out).mono ?_); rintro e w67 ⟨rfl, hb⟩; have n0_ := Aside0.mk (below_step HB.out hb); clear hc4_0 hf4_0 hc4_1 hf4_1 hc4_2 hf4_2 hc4_3 hf4_3; clear hc2_0 hf2_0 hc2_1 hf2_1 hc2_2 hf2_2 hc2_3 hf2_3; have m0_ := Aside0.mk (blk_below BKG2.out hb); have m1_ := Aside0.mk (blk_below BKG4.out hb); have m2_ := Aside0.mk (Fam.below HF.out hb); have m3_ := Aside0.mk (Kd.R_below HP.out hb); clear HB BKG2 BKG4 HF HP; have HB := n0_; have BKG2 := m0_; have BKG4 := m1_; have HF := m2_; have HP := m3_; clear n0_ m0_ m1_ m2_ m3_; have hc4_0 : w67.cell? ⟨G4, 0, none⟩ = some (.slice Ax0 x0.length cx0) := (blk_cell BKG4.out 0).trans rfl; have hf4_0 := blk_frozen BKG4.out 0; have hc4_1 : w67.cell? ⟨G4, 1, none⟩ = some (.slice Ax1 x1.length cx1) := (blk_cell BKG4.out 1).trans rfl; have hf4_1 := blk_frozen BKG4.out 1; have hc4_2 : w67.cell? ⟨G4, 2, none⟩ = some (.slice Ax2 x2.length cx2) := (blk_cell BKG4.out 2).trans rfl; have hf4_2 := blk_frozen BKG4.out 2; have hc4_3 : w67.cell? ⟨G4, 3, none⟩ = some (.slice Ax3 x3.length cx3) := (blk_cell BKG4.out 3).trans rfl; have hf4_3 := blk_frozen BKG4.out 3; have hc2_0 : w67.cell? ⟨G2, 0, none⟩ = some (.slice none 0 0) := (blk_cell BKG2.out 0).trans rfl; have hf2_0 := blk_frozen BKG2.out 0; have hc2_1 : w67.cell? ⟨G2, 1, none⟩ = some (.slice none 0 0) := (blk_cell BKG2.out 1).trans rfl; have hf2_1 := blk_frozen BKG2.out 1; have hc2_2 : w67.cell? ⟨G2, 2, none⟩ = some (.slice none 0 0) := (blk_cell BKG2.out 2).trans rfl; have hf2_2 := blk_frozen BKG2.out 2; have hc2_3 : w67.cell? ⟨G2, 3, none⟩ = some (.slice none 0 0) := (blk_cell BKG2.out 3).trans rfl; have hf2_3 := blk_frozen BKG2.out 3; clear hb))
          obtain ⟨T1, T2, T3⟩ := stored4 BKG2.out HB.out HG2.out (.slice none 0 0) (.slice none 0 0) (.slice none 0 0) (.slice none 0 0)
          refine bodyPost_ret (results_ct rfl _ _ G2 47 #[.slice none 0 0, .slice none 0 0, .slice none 0 0, .slice none 0 0] (0, 0) _ rfl T1 hu47 rfl (by kernel_rfl)) rfl ?_
          exact ⟨_, _, _, _, rfl, Kd.R_nil _ _ _ _ _, Kd.R_nil _ _ _ _ _, Kd.R_nil _ _ _ _ _, Kd.R_nil _ _ _ _ _, T3⟩)
      | true =>
        have H : (spec_l2Text.f k x0 x1 x2 x3).bind (fun t => if t.toList = a0.toList then some (x0, x1, x2, x3, true) else some ([], [], [], [], false)) = some (r1, r2, r3, r4, r5) := H
        obtain ⟨tx, AT0, H⟩ := Option.bind_eq_some_iff.mp H
        have AT := Aside0.mk AT0
        clear AT0
        by_cases ce : tx.toList = a0.toList
        · rw [if_pos ce] at H
          simp only [Option.some.injEq, Prod.mk.injEq] at H
          obtain ⟨rfl, rfl, rfl, rfl, rfl⟩ := H
          have ce0 : (tx.toList == a0.toList) = true := beq_iff_eq.mpr ce
          have ce1 : (tx.toList != a0.toList) = false := bne_eq_false_iff_eq.mpr ce
          clear ce
          rcases hq with q1b | ⟨q1b, q2b⟩
          all_goals (
            go_wp2_with (first | (go_at_call 67; (with_reducible refine (spec_l2Good.calls k _ _ x0 _ _ x1 _ _ x2 _ _ x3 _ _ (Kd.R_reads' (HF.out.get 0 rfl)).2.2 (Kd.R_reads' (HF.out.get 0 rfl)).2.1 (Kd.R_reads' (HF.out.get 1 rfl)).2.2 (Kd.R_reads' (HF.out.get 1 rfl)).2.1 (Kd.R_reads' (HF.out.get 2 rfl)).2.2 (Kd.R_reads' (HF.out.get 2 rfl)).2.1 (Kd.R_reads' (HF.out.get 3 rfl)).2.2 (Kd.R_reads' (HF.out.get 3 rfl)).2.1 AG.out).mono ?_); rintro e w67 ⟨rfl, hb⟩; have n0_ := Aside0.mk (below_step HB.out hb); clear hc4_0 hf4_0 hc4_1 hf4_1 hc4_2 hf4_2 hc4_3 hf4_3; clear hc2_0 hf2_0 hc2_1 hf2_1 hc2_2 hf2_2 hc2_3 hf2_3; have m0_ := Aside0.mk (blk_below BKG2.out hb); have m1_ := Aside0.mk (blk_below BKG4.out hb); have m2_ := Aside0.mk (Fam.below HF.out hb); have m3_ := Aside0.mk (Kd.R_below HP.out hb); clear HB BKG2 BKG4 HF HP; have HB := n0_; have BKG2 := m0_; have BKG4 := m1_; have HF := m2_; have HP := m3_; clear n0_ m0_ m1_ m2_ m3_; have hc4_0 : w67.cell? ⟨G4, 0, none⟩ = some (.slice Ax0 x0.length cx0) := (blk_cell BKG4.out 0).trans rfl; have hf4_0 := blk_frozen BKG4.out 0; have hc4_1 : w67.cell? ⟨G4, 1, none⟩ = some (.slice Ax1 x1.length cx1) := (blk_cell BKG4.out 1).trans rfl; have hf4_1 := blk_frozen BKG4.out 1; have hc4_2 : w67.cell? ⟨G4, 2, none⟩ = some (.slice Ax2 x2.length cx2) := (blk_cell BKG4.out 2).trans rfl; have hf4_2 := blk_frozen BKG4.out 2; have hc4_3 : w67.cell? ⟨G4, 3, none⟩ = some (.slice Ax3 x3.length cx3) := (blk_cell BKG4.out 3).trans rfl; have hf4_3 := blk_frozen BKG4.out 3; have hc2_0 : w67.cell? ⟨G2, 0, none⟩ = some (.slice none 0 0) := (blk_cell BKG2.out 0).trans rfl; have hf2_0 := blk_frozen BKG2.out 0; have hc2_1 : w67.cell? ⟨G2, 1, none⟩ = some (.slice none 0 0) := (blk_cell BKG2.out 1).trans rfl; have hf2_1 := blk_frozen BKG2.out 1; have hc2_2 : w67.cell? ⟨G2, 2, none⟩ = some (.slice none 0 0) := (blk_cell BKG2.out 2).trans rfl; have hf2_2 := blk_frozen BKG2.out 2; have hc2_3 : w67.cell? ⟨G2, 3, none⟩ = some (.slice none 0 0) := (blk_cell BKG2.out 3).trans rfl; have hf2_3 := blk_frozen BKG2.out 3; clear hb) | (go_at_call 68; (with_reducible refine (spec_l2Text.calls k _ _ x0 _ _ x1 _ _ x2 _ _ x3 tx _ (Kd.R_reads' (HF.out.get 0 rfl)).2.2 (Kd.R_reads' (HF.out.get 0 rfl)).2.1 (Kd.R_reads' (HF.out.get 1 rfl)).2.2 (Kd.R_reads' (HF.out.get 1 rfl)).2.1 (Kd.R_reads' (HF.out.get 2 rfl)).2.2 (Kd.R_reads' (HF.out.get 2 rfl)).2.1 (Kd.R_reads' (HF.out.get 3 rfl)).2.2 (Kd.R_reads' (HF.out.get 3 rfl)).2.1 AT.out).mono ?_); rintro e w68 ⟨rfl, hb⟩; have n0_ := Aside0.mk (below_step HB.out hb); clear hc4_0 hf4_0 hc4_1 hf4_1 hc4_2 hf4_2 hc4_3 hf4_3; clear hc2_0 hf2_0 hc2_1 hf2_1 hc2_2 hf2_2 hc2_3 hf2_3; have m0_ := Aside0.mk (blk_below BKG2.out hb); have m1_ := Aside0.mk (blk_below BKG4.out hb); have m2_ := Aside0.mk (Fam.below HF.out hb); have m3_ := Aside0.mk (Kd.R_below HP.out hb); clear HB BKG2 BKG4 HF HP; have HB := n0_; have BKG2 := m0_; have BKG4 := m1_; have HF := m2_; have HP := m3_; clear n0_ m0_ m1_ m2_ m3_; have hc4_0 : w68.cell? ⟨G4, 0, none⟩ = some (.slice Ax0 x0.length cx0) := (blk_cell BKG4.out 0).trans rfl; have hf4_0 := blk_frozen BKG4.out 0; have hc4_1 : w68.cell? ⟨G4, 1, none⟩ = some (.slice Ax1 x1.length cx1) := (blk_cell BKG4.out 1).trans rfl; have hf4_1 := blk_frozen BKG4.out 1; have hc4_2 : w68.cell? ⟨G4, 2, none⟩ = some (.slice Ax2 x2.length cx2) := (blk_cell BKG4.out 2).trans rfl; have hf4_2 := blk_frozen BKG4.out 2; have hc4_3 : w68.cell? ⟨G4, 3, none⟩ = some (.slice Ax3 x3.length cx3) := (blk_cell BKG4.out 3).trans rfl; have hf4_3 := blk_frozen BKG4.out 3; have hc2_0 : w68.cell? ⟨G2, 0, none⟩ = some (.slice none 0 0) := (blk_cell BKG2.out 0).trans rfl; have hf2_0 := blk_frozen BKG2.out 0; have hc2_1 : w68.cell? ⟨G2, 1, none⟩ = some (.slice none 0 0) := (blk_cell BKG2.out 1).trans rfl; have hf2_1 := blk_frozen BKG2.out 1; have hc2_2 : w68.cell? ⟨G2, 2, none⟩ = some (.slice none 0 0) := (blk_cell BKG2.out 2).trans rfl; have hf2_2 := blk_frozen BKG2.out 2; have hc2_3 : w68.cell? ⟨G2, 3, none⟩ = some (.slice none 0 0) := (blk_cell BKG2.out 3).trans rfl; have hf2_3 := blk_frozen BKG2.out 3; clear hb))
            obtain ⟨T1, T2, T3⟩ := stored4 BKG2.out HB.out HG2.out (.slice Ax0 x0.length cx0) (.slice Ax1 x1.length cx1) (.slice Ax2 x2.length cx2) (.slice Ax3 x3.length cx3)
            have HE := HF.out.fr BKG2.out (by decide) T2
            refine bodyPost_ret (results_ct rfl _ _ G2 47 #[.slice Ax0 x0.length cx0, .slice Ax1 x1.length cx1, .slice Ax2 x2.length cx2, .slice Ax3 x3.length cx3] (0, 0) _ rfl T1 hu47 rfl (by kernel_rfl)) rfl ?_
            exact ⟨_, _, _, _, rfl, R_okk (HE.get 0 rfl) (fun k_ hk => ⟨HE.dis 0 1 (by decide) rfl rfl k_ hk, HE.dis 0 2 (by decide) rfl rfl k_ hk, HE.dis 0 3 (by decide) rfl rfl k_ hk⟩), R_okk (HE.get 1 rfl) (fun k_ hk => ⟨HE.dis 1 0 (by decide) rfl rfl k_ hk, HE.dis 1 2 (by decide) rfl rfl k_ hk, HE.dis 1 3 (by decide) rfl rfl k_ hk⟩), R_okk (HE.get 2 rfl) (fun k_ hk => ⟨HE.dis 2 0 (by decide) rfl rfl k_ hk, HE.dis 2 1 (by decide) rfl rfl k_ hk, HE.dis 2 3 (by decide) rfl rfl k_ hk⟩), R_okk (HE.get 3 rfl) (fun k_ hk => ⟨HE.dis 3 0 (by decide) rfl rfl k_ hk, HE.dis 3 1 (by decide) rfl rfl k_ hk, HE.dis 3 2 (by decide) rfl rfl k_ hk⟩), T3⟩)
        · rw [if_neg ce] at H
          have H : some ((([] : List Int), ([] : List Int), ([] : List Int), ([] : List Int), false) : List Int × List Int × List Int × List Int × Bool) = some (r1, r2, r3, r4, r5) := H
          simp only [Option.some.injEq, Prod.mk.injEq] at H
          obtain ⟨rfl, rfl, rfl, rfl, rfl⟩ := H
          have ce0 : (tx.toList == a0.toList) = false := beq_eq_false_iff_ne.mpr ce
          have ce1 : (tx.toList != a0.toList) = true := bne_iff_ne.mpr ce
          clear ce
          rcases hq with q1b | ⟨q1b, q2b⟩
          all_goals (
            go_wp2_with (first | (go_at_call 67; (with_reducible refine (spec_l2Good.calls k _ _ x0 _ _ x1 _ _ x2 _ _ x3 _ _ (Kd.R_reads' (HF.out.get 0 rfl)).2.2 (Kd.R_reads' (HF.out.get 0 rfl)).2.1 (Kd.R_reads' (HF.out.get 1 rfl)).2.2 (Kd.R_reads' (HF.out.get 1 rfl)).2.1 (Kd.R_reads' (HF.out.get 2 rfl)).2.2 (Kd.R_reads' (HF.out.get 2 rfl)).2.1 (Kd.R_reads' (HF.out.get 3 rfl)).2.2 (Kd.R_reads' (HF.out.get 3 rfl)).2.1 AG.out).mono ?_); rintro e w67 ⟨rfl, hb⟩; have n0_ := Aside0.mk (below_step HB.out hb); clear hc4_0 hf4_0 hc4_1 hf4_1 hc4_2 hf4_2 hc4_3 hf4_3; clear hc2_0 hf2_0 hc2_1 hf2_1 hc2_2 hf2_2 hc2_3 hf2_3; have m0_ := Aside0.mk (blk_below BKG2.out hb); have m1_ := Aside0.mk (blk_below BKG4.out hb); have m2_ := Aside0.mk (Fam.below HF.out hb); have m3_ := Aside0.mk (Kd.R_below HP.out hb); clear HB BKG2 BKG4 HF HP; have HB := n0_; have BKG2 := m0_; have BKG4 := m1_; have HF := m2_; have HP := m3_; clear n0_ m0_ m1_ m2_ m3_; have hc4_0 : w67.cell? ⟨G4, 0, none⟩ = some (.slice Ax0 x0.length cx0) := (blk_cell BKG4.out 0).trans rfl; have hf4_0 := blk_frozen BKG4.out 0; have hc4_1 : w67.cell? ⟨G4, 1, none⟩ = some (.slice Ax1 x1.length cx1) := (blk_cell BKG4.out 1).trans rfl; have hf4_1 := blk_frozen BKG4.out 1; have hc4_2 : w67.cell? ⟨G4, 2, none⟩ = some (.slice Ax2 x2.length cx2) := (blk_cell BKG4.out 2).trans rfl; have hf4_2 := blk_frozen BKG4.out 2; have hc4_3 : w67.cell? ⟨G4, 3, none⟩ = some (.slice Ax3 x3.length cx3) := (blk_cell BKG4.out 3).trans rfl; have hf4_3 := blk_frozen BKG4.out 3; have hc2_0 : w67.cell? ⟨G2, 0, none⟩ = some (.slice none 0 0) := (blk_cell BKG2.out 0).trans rfl; have hf2_0 := blk_frozen BKG2.out 0; have hc2_1 : w67.cell? ⟨G2, 1, none⟩ = some (.slice none 0 0) := (blk_cell BKG2.out 1).trans rfl; have hf2_1 := blk_frozen BKG2.out 1; have hc2_2 : w67.cell? ⟨G2, 2, none⟩ = some (.slice none 0 0) := (blk_cell BKG2.out 2).trans rfl; have hf2_2 := blk_frozen BKG2.out 2; have hc2_3 : w67.cell? ⟨G2, 3, none⟩ = some (.slice none 0 0) := (blk_cell BKG2.out 3).trans rfl; have hf2_3 := blk_frozen BKG2.out 3; clear hb) | (go_at_call 68; (with_reducible refine (spec_l2Text.calls k _ _ x0 _ _ x1 _ _ x2 _ _ x3 tx _ (Kd.R_reads' (HF.out.get 0 rfl)).2.2 (Kd.R_reads' (HF.out.get 0 rfl)).2.1 (Kd.R_reads' (HF.out.get 1 rfl)).2.2 (Kd.R_reads' (HF.out.get 1 rfl)).2.1 (Kd.R_reads' (HF.out.get 2 rfl)).2.2 (Kd.R_reads' (HF.out.get 2 rfl)).2.1 (Kd.R_reads' (HF.out.get 3 rfl)).2.2 (Kd.R_reads' (HF.out.get 3 rfl)).2.1 AT.out).mono ?_); rintro e w68 ⟨rfl, hb⟩; have n0_ := Aside0.mk (below_step HB.out hb); clear hc4_0 hf4_0 hc4_1 hf4_1 hc4_2 hf4_2 hc4_3 hf4_3; clear hc2_0 hf2_0 hc2_1 hf2_1 hc2_2 hf2_2 hc2_3 hf2_3; have m0_ := Aside0.mk (blk_below BKG2.out hb); have m1_ := Aside0.mk (blk_below BKG4.out hb); have m2_ := Aside0.mk (Fam.below HF.out hb); have m3_ := Aside0.mk (Kd.R_below HP.out hb); clear HB BKG2 BKG4 HF HP; have HB := n0_; have BKG2 := m0_; have BKG4 := m1_; have HF := m2_; have HP := m3_; clear n0_ m0_ m1_ m2_ m3_; have hc4_0 : w68.cell? ⟨G4, 0, none⟩ = some (.slice Ax0 x0.length cx0) := (blk_cell BKG4.out 0).trans rfl; have hf4_0 := blk_frozen BKG4.out 0; have hc4_1 : w68.cell? ⟨G4, 1, none⟩ = some (.slice Ax1 x1.length cx1) := (blk_cell BKG4.out 1).trans rfl; have hf4_1 := blk_frozen BKG4.out 1; have hc4_2 : w68.cell? ⟨G4, 2, none⟩ = some (.slice Ax2 x2.length cx2) := (blk_cell BKG4.out 2).trans rfl; have hf4_2 := blk_frozen BKG4.out 2; have hc4_3 : w68.cell? ⟨G4, 3, none⟩ = some (.slice Ax3 x3.length cx3) := (blk_cell BKG4.out 3).trans rfl; have hf4_3 := blk_frozen BKG4.out 3; have hc2_0 : w68.cell? ⟨G2, 0, none⟩ = some (.slice none 0 0) := (blk_cell BKG2.out 0).trans rfl; have hf2_0 := blk_frozen BKG2.out 0; have hc2_1 : w68.cell? ⟨G2, 1, none⟩ = some (.slice none 0 0) := (blk_cell BKG2.out 1).trans rfl; have hf2_1 := blk_frozen BKG2.out 1; have hc2_2 : w68.cell? ⟨G2, 2, none⟩ = some (.slice none 0 0) := (blk_cell BKG2.out 2).trans rfl; have hf2_2 := blk_frozen BKG2.out 2; have hc2_3 : w68.cell? ⟨G2, 3, none⟩ = some (.slice none 0 0) := (blk_cell BKG2.out 3).trans rfl; have hf2_3 := blk_frozen BKG2.out 3; clear hb))
            obtain ⟨T1, T2, T3⟩ := stored4 BKG2.out HB.out HG2.out (.slice none 0 0) (.slice none 0 0) (.slice none 0 0) (.slice none 0 0)
            refine bodyPost_ret (results_ct rfl _ _ G2 47 #[.slice none 0 0, .slice none 0 0, .slice none 0 0, .slice none 0 0] (0, 0) _ rfl T1 hu47 rfl (by kernel_rfl)) rfl ?_
            exact ⟨_, _, _, _, rfl, Kd.R_nil _ _ _ _ _, Kd.R_nil _ _ _ _ _, Kd.R_nil _ _ _ _ _, Kd.R_nil _ _ _ _ _, T3⟩)

end Go.Proofs.YtbdbogpmnmcaeaaDoor.PFnExactParseCase
