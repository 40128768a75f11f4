/- Written by hand and by programs of this session: impl.ParseCase. -/
import Derived.Test.YtbdbogpmnmcaeaaDoorQFnExactParseCasex8
namespace Go.Proofs.YtbdbogpmnmcaeaaDoor.PFnExactParseCase
open Go.RowKit Go.Proofs.YtbdbogpmnmcaeaaDoor.Tabs Go.Proofs.YtbdbogpmnmcaeaaDoorW.PrintWords Go.Proofs.YtbdbogpmnmcaeaaDoorW.PrintLast Go.Proofs.YtbdbogpmnmcaeaaDoorW.PrintMore Go.Proofs.YtbdbogpmnmcaeaaDoor.Hold
set_option linter.unusedVariables false
set_option linter.unusedSimpArgs false
/-! ### impl_ParseCase: function 38 -/
def impl_ParseCase.t (k : Nat) (a0 : ByteArray) (x0 x1 x2 x3 : List Int) : Option (List Int × List Int × List Int × List Int × Bool) :=
  (impl_IsCase.f k x0 x1 x2 x3).bind fun g => if g = true then (impl_caseText.f k x0 x1 x2 x3).bind fun t => if t.toList = a0.toList then some (x0, x1, x2, x3, true) else some ([], [], [], [], false) else some ([], [], [], [], false)
def impl_ParseCase.l (k : Nat) (a0 : ByteArray) (ws : List ByteArray) : Nat → Int → List Int → List Int → List Int → List Int → Option (List Int × List Int × List Int × List Int × Bool)
  | 0, _, _, _, _, _ => none
  | d + 1, i, x0, x1, x2, x3 => if i < (ws.length : Int) then (impl_readNumbers.f k (rdOf ByteArray.empty ws i) (⟨#[47]⟩ : ByteArray)).bind fun r => if r.2 = true then (if r.1.length = 4 then (if x0.length = 8 then some ([], [], [], [], false) else impl_ParseCase.l k a0 ws d (i + 1) (x0 ++ [rd r.1 0]) (x1 ++ [rd r.1 1]) (x2 ++ [rd r.1 2]) (x3 ++ [rd r.1 3])) else some ([], [], [], [], false)) else some ([], [], [], [], false) else impl_ParseCase.t k a0 x0 x1 x2 x3
def impl_ParseCase.f (k : Nat) (a0 : ByteArray) : Option (List Int × List Int × List Int × List Int × Bool) :=
  if a0.toList = ([110, 111, 110, 101] : List UInt8) then some ([], [], [], [], true) else (strings_Split.f a0 (⟨#[32]⟩ : ByteArray)).bind fun ws => impl_ParseCase.l k a0 ws 10 0 [] [] [] []
theorem Fam.snoc {W : World} {B : Nat} {L : List (Value × List Int)} (h : Fam W B L) {v : Value} {xs : List Int} (hr : Kd.R (Kd.int .i64) 3 W B (fun _ => True) v xs) (hd : ∀ (i : Nat) (p : Value × List Int), L[i]? = some p → Dis p.1 v) : Fam W B (L ++ [(v, xs)]) := by
  have key : ∀ (i : Nat) (p : Value × List Int), (L ++ [(v, xs)])[i]? = some p → (L[i]? = some p ∧ i < L.length) ∨ (p = (v, xs) ∧ i = L.length) := by
    intro i p e
    by_cases c : i < L.length
    · rw [List.getElem?_append_left c] at e; exact .inl ⟨e, c⟩
    · rw [List.getElem?_append_right (by omega)] at e
      by_cases d : i - L.length = 0
      · rw [d] at e
        exact .inr ⟨by simpa using e.symm, by omega⟩
      · obtain ⟨n, hn⟩ : ∃ n, i - L.length = n + 1 := ⟨i - L.length - 1, by omega⟩
        rw [hn] at e
        simp at e
  refine ⟨fun i p e => ?_, fun i j p q e1 e2 hne => ?_⟩
  · rcases key i p e with ⟨e, _⟩ | ⟨rfl, _⟩
    · exact h.1 i p e
    · exact hr
  · rcases key i p e1 with ⟨e1, _⟩ | ⟨rfl, c1⟩ <;> rcases key j q e2 with ⟨e2, _⟩ | ⟨rfl, c2⟩
    · exact h.2 i j p q e1 e2 hne
    · exact hd i p e1
    · exact fun k hk hq => hd j q e2 k hq hk
    · exact absurd (c1.trans c2.symm) hne
theorem Fam.nils {W : World} {B : Nat} {L : List (Value × List Int)} (h : Fam W B L) : Fam W B (L ++ [(.slice none 0 0, [])]) := h.snoc (Kd.R_nil _ _ _ _ _) (fun i p e k h1 h2 => by simp [Value.ownBlock] at h2)
/-- Behind a call that has made a row. -/
theorem Fam.called {W W' : World} {B : Nat} {L : List (Value × List Int)} (h : Fam W B L) (hb : Below W.heap.size W W') {v : Value} {xs : List Int} (hr : Kd.R (Kd.int .i64) 3 W' W.heap.size (fun _ => True) v xs) (hB : B ≤ W.heap.size) : Fam W' B (L ++ [(v, xs)]) :=
  (h.below hb).snoc (Kd.R_lower hr hB) (fun i p e k h1 h2 => by have := Kd.R_lt (h.1 i p e) k h1; have := Kd.R_base hr k h2; omega)
theorem Fam.made {W : World} {B : Nat} {L : List (Value × List Int)} (h : Fam W B L) (hB : B ≤ W.heap.size) (i : Nat) {xs : List Int} (hi : L[i]? = some (.slice none 0 0, xs)) (m : Int) : Fam (W.alloc (.cells #[.int .i64 m] 3)) B (L.set i (.slice (some ⟨W.heap.size, 0, none⟩) 1 1, [m])) :=
  h.fill i hi (below_alloc (Below.refl _ _) _) (Kd.R_of_own (h1 := fun _ => rfl) (xs := [m]) (World.ownsRow_lit W #[.int .i64 m] 1 (Nat.le_refl _) (by decide) rfl) (fun _ _ => trivial)) hB
theorem Fam.first4 {W : World} {B : Nat} {a b c d : Value × List Int} {L : List (Value × List Int)} (h : Fam W B (a :: b :: c :: d :: L)) : Fam W B [a, b, c, d] := by
  have key : ∀ (i : Nat) (p : Value × List Int), ([a, b, c, d] : List (Value × List Int))[i]? = some p → (a :: b :: c :: d :: L)[i]? = some p := by
    intro i p e
    match i with
    | 0 | 1 | 2 | 3 => simpa using e
    | n + 4 => simp at e
  exact ⟨fun i p e => h.1 i p (key i p e), fun i j p q e1 e2 => h.2 i j p q (key i p e1) (key j q e2)⟩
theorem Fam.cells4 {W : World} {B : Nat} {L : List (Value × List Int)} (h : Fam W B L) (i : Nat) {g c : Nat} {m0 m1 m2 m3 : Int} (hi : L[i]? = some (.slice (some ⟨g, 0, none⟩) 4 c, [m0, m1, m2, m3])) :
    W.cell? ⟨g, 0, none⟩ = some (.int .i64 m0) ∧ W.cell? ⟨g, 1, none⟩ = some (.int .i64 m1) ∧ W.cell? ⟨g, 2, none⟩ = some (.int .i64 m2) ∧ W.cell? ⟨g, 3, none⟩ = some (.int .i64 m3) := by
  have hr := h.get i hi
  exact ⟨(Kd.R_celln (h1 := fun _ => rfl) (0 : Int) hr 0 (by omega) (by omega)).1, (Kd.R_celln (h1 := fun _ => rfl) (0 : Int) hr 1 (by omega) (by omega)).1, (Kd.R_celln (h1 := fun _ => rfl) (0 : Int) hr 2 (by omega) (by omega)).1, (Kd.R_celln (h1 := fun _ => rfl) (0 : Int) hr 3 (by omega) (by omega)).1⟩
def impl_ParseCase.T10 : Bool × List (List Nat × List Nat) := (true, [([], []), ([0], [0]), ([], []), ([2], [2]), ([3], [3]), ([4], [4]), ([1, 5], [1, 5]), ([], []), ([7], [7]), ([], []), ([9], [9]), ([10], [10]), ([11], [11]), ([8, 12, 6], [8, 12]), ([], []), ([14], [14]), ([], []), ([16], [16]), ([17], [17]), ([18], [18]), ([15, 19, 13], [15, 19]), ([], []), ([21], [21]), ([], []), ([23], [23]), ([24], [24]), ([25], [25]), ([22, 26, 20], [22, 26]), ([0, 1, 2, 3, 4, 5, 6, 7, 8, 14, 15, 21, 22], []), ([28, 6, 27, 0, 1, 2, 3, 4, 5, 6, 7, 8, 14, 15, 21, 22], [6, 28]), ([0, 1, 2, 3, 4, 5, 6, 7, 8, 9, 10, 11, 12, 13, 14, 15, 21, 22, 28, 29], []), ([30, 13, 29, 0, 1, 2, 3, 4, 5, 6, 7, 8, 9, 10, 11, 12, 13, 14, 15, 21, 22, 28, 29], [13, 30]), ([0, 1, 2, 3, 4, 5, 6, 7, 8, 9, 10, 11, 12, 13, 14, 15, 16, 17, 18, 19, 20, 21, 22, 28, 29, 30, 31], []), ([32, 20, 31, 0, 1, 2, 3, 4, 5, 6, 7, 8, 9, 10, 11, 12, 13, 14, 15, 16, 17, 18, 19, 20, 21, 22, 28, 29, 30, 31], [20, 32]), ([0, 1, 2, 3, 4, 5, 6, 7, 8, 9, 10, 11, 12, 13, 14, 15, 16, 17, 18, 19, 20, 21, 22, 23, 24, 25, 26, 27, 28, 29, 30, 31, 32, 33], []), ([34, 27, 33, 0, 1, 2, 3, 4, 5, 6, 7, 8, 9, 10, 11, 12, 13, 14, 15, 16, 17, 18, 19, 20, 21, 22, 23, 24, 25, 26, 27, 28, 29, 30, 31, 32, 33], [27, 34])])
def impl_ParseCase.B10 : List Nat := [0, 1, 0, 4, 12, 28, 63, 0, 128, 0, 512, 1536, 3584, 8191, 0, 16384, 0, 65536, 196608, 458752, 1048575, 0, 2097152, 0, 8388608, 25165824, 58720256, 134217727, 6341119, 536870911, 1073741823, 2147483647, 4294967295, 8589934591, 17179869183, 34359738367]
theorem impl_ParseCase.tab10 : rtab .any (opsOf Tryd.f38 10) = impl_ParseCase.T10 := by kernel_rfl
theorem impl_ParseCase.bits10 : waitsOk impl_ParseCase.T10.2 impl_ParseCase.B10 = true := by kernel_rfl
set_option maxHeartbeats 8000000 in
set_option maxRecDepth 100000 in
theorem impl_ParseCase.calls (k : Nat) (a0 : ByteArray) (r1 r2 r3 r4 : List Int) (r5 : Bool) (w : World) (h : impl_ParseCase.f k a0 = some (r1, r2, r3, r4, r5)) (hT : Tabs true true true w) :
    Calls Tryd.prog 38 #[.string a0] w fun e w' => ∃ v0_ v1_ v2_ v3_ : Value, e = .returned (.tuple #[.agg #[v0_, v1_, v2_, v3_], .bool r5]) ∧ Kd.R (Kd.int .i64) 3 w' w.heap.size (fun k_ => some k_ ≠ (v1_ : Value).ownBlock ∧ some k_ ≠ (v2_ : Value).ownBlock ∧ some k_ ≠ (v3_ : Value).ownBlock) v0_ r1 ∧ Kd.R (Kd.int .i64) 3 w' w.heap.size (fun k_ => some k_ ≠ (v0_ : Value).ownBlock ∧ some k_ ≠ (v2_ : Value).ownBlock ∧ some k_ ≠ (v3_ : Value).ownBlock) v1_ r2 ∧ Kd.R (Kd.int .i64) 3 w' w.heap.size (fun k_ => some k_ ≠ (v0_ : Value).ownBlock ∧ some k_ ≠ (v1_ : Value).ownBlock ∧ some k_ ≠ (v3_ : Value).ownBlock) v2_ r3 ∧ Kd.R (Kd.int .i64) 3 w' w.heap.size (fun k_ => some k_ ≠ (v0_ : Value).ownBlock ∧ some k_ ≠ (v1_ : Value).ownBlock ∧ some k_ ≠ (v2_ : Value).ownBlock) v3_ r4 ∧ Below w.heap.size w w' := by
  have hu47 := Tryd.underlying47
  have HT0 := Aside0.mk hT
  clear hT
  have HB := Aside0.mk (Below.refl w.heap.size w)
  go_enter Tryd.func38, Tryd.ntmps38
  go_upto_region 1 with (first | (refine gate_dst (N := 2) rfl ?_; refine box_event ?hg (N := 2) ?hd (cs := #[.slice none 0 0, .slice none 0 0, .slice none 0 0, .slice none 0 0]) (t := 47) ?hr ?_; (case hd => rfl); (case hg => rfl); (case hr => first | (go_simp; done) | (go_simp; rfl)); intro G2 hg w1 hbox hb; have n0_ := Aside0.mk (below_step HB.out hb); have HG2 := Aside0.mk (show w.heap.size ≤ G2 by rw [hg]; exact HB.out.size); clear HB ; have HB := n0_; clear n0_ ; have BKG2 := Aside0.mk hbox; clear hb hbox hg))
  have HF := Aside0.mk (Fam.nil4 w1 w.heap.size)
  go_upto_region 2 with (first | (refine gate_dst (N := 4) rfl ?_; refine box_event ?hg (N := 4) ?hd (cs := #[.slice none 0 0, .slice none 0 0, .slice none 0 0, .slice none 0 0]) (t := 47) ?hr ?_; (case hd => rfl); (case hg => rfl); (case hr => first | (go_simp; done) | (go_simp; rfl)); intro G4 hg w3 hbox hb; have n0_ := Aside0.mk (below_step HB.out hb); have NE := Aside0.mk (show G2 < G4 by rw [hg]; exact blk_lt BKG2.out); have HG4 := Aside0.mk (show w.heap.size ≤ G4 by rw [hg]; exact HB.out.size); have m0_ := Aside0.mk (blk_below BKG2.out hb); have m1_ := Aside0.mk (Fam.below HF.out hb); clear HB BKG2 HF; have HB := n0_; have BKG2 := m0_; have HF := m1_; clear n0_ m0_ m1_; have BKG4 := Aside0.mk hbox; have hc4_0 : w3.cell? ⟨G4, 0, none⟩ = some (.slice none 0 0) := (blk_cell BKG4.out 0).trans rfl; have hf4_0 := blk_frozen BKG4.out 0; have hc4_1 : w3.cell? ⟨G4, 1, none⟩ = some (.slice none 0 0) := (blk_cell BKG4.out 1).trans rfl; have hf4_1 := blk_frozen BKG4.out 1; have hc4_2 : w3.cell? ⟨G4, 2, none⟩ = some (.slice none 0 0) := (blk_cell BKG4.out 2).trans rfl; have hf4_2 := blk_frozen BKG4.out 2; have hc4_3 : w3.cell? ⟨G4, 3, none⟩ = some (.slice none 0 0) := (blk_cell BKG4.out 3).trans rfl; have hf4_3 := blk_frozen BKG4.out 3; clear hb hbox hg))
  obtain ⟨S1, S2, S3⟩ := stored4 BKG4.out HB.out HG4.out (.slice none 0 0) (.slice none 0 0) (.slice none 0 0) (.slice none 0 0)
  have HBn := Aside0.mk S3
  have BK2n := Aside0.mk (fr_blk BKG2.out S2 (by have := NE.out; omega))
  have HFn := Aside0.mk (HF.out.fr BKG4.out (by decide) S2)
  have BK4n := Aside0.mk S1
  clear hc4_0 hf4_0 hc4_1 hf4_1 hc4_2 hf4_2 hc4_3 hf4_3
  clear HB BKG2 HF BKG4 S1 S2 S3
  have HB := HBn
  have BKG2 := BK2n
  have HF := HFn
  have BKG4 := BK4n
  clear HBn BK2n HFn BK4n
  generalize ((((w3.setCell ⟨G4, 0, none⟩ (.slice none 0 0)).setCell ⟨G4, 1, none⟩ (.slice none 0 0)).setCell ⟨G4, 2, none⟩ (.slice none 0 0)).setCell ⟨G4, 3, none⟩ (.slice none 0 0)) = w4 at HB BKG2 HF BKG4 ⊢
  have hne1 : G2 ≠ G4 := by have := NE.out; omega
  have hne2 : G4 ≠ G2 := by have := NE.out; omega
  by_cases cn : a0.toList = ([110, 111, 110, 101] : List UInt8)
  · have h2 : some (([] : List Int), ([] : List Int), ([] : List Int), ([] : List Int), true) = some (r1, r2, r3, r4, r5) := by unfold impl_ParseCase.f at h; rw [if_pos cn] at h; exact h
    simp only [Option.some.injEq, Prod.mk.injEq] at h2
    obtain ⟨rfl, rfl, rfl, rfl, rfl⟩ := h2
    have cn1 : (a0.toList == ([110, 111, 110, 101] : List UInt8)) = true := beq_iff_eq.mpr cn
    have hc4_0 : w4.cell? ⟨G4, 0, none⟩ = some (.slice none 0 0) := (blk_cell BKG4.out 0).trans rfl; have hf4_0 := blk_frozen BKG4.out 0; have hc4_1 : w4.cell? ⟨G4, 1, none⟩ = some (.slice none 0 0) := (blk_cell BKG4.out 1).trans rfl; have hf4_1 := blk_frozen BKG4.out 1; have hc4_2 : w4.cell? ⟨G4, 2, none⟩ = some (.slice none 0 0) := (blk_cell BKG4.out 2).trans rfl; have hf4_2 := blk_frozen BKG4.out 2; have hc4_3 : w4.cell? ⟨G4, 3, none⟩ = some (.slice none 0 0) := (blk_cell BKG4.out 3).trans rfl; have hf4_3 := blk_frozen BKG4.out 3
    have hc2_0 : w4.cell? ⟨G2, 0, none⟩ = some (.slice none 0 0) := (blk_cell BKG2.out 0).trans rfl; have hf2_0 := blk_frozen BKG2.out 0; have hc2_1 : w4.cell? ⟨G2, 1, none⟩ = some (.slice none 0 0) := (blk_cell BKG2.out 1).trans rfl; have hf2_1 := blk_frozen BKG2.out 1; have hc2_2 : w4.cell? ⟨G2, 2, none⟩ = some (.slice none 0 0) := (blk_cell BKG2.out 2).trans rfl; have hf2_2 := blk_frozen BKG2.out 2; have hc2_3 : w4.cell? ⟨G2, 3, none⟩ = some (.slice none 0 0) := (blk_cell BKG2.out 3).trans rfl; have hf2_3 := blk_frozen BKG2.out 3
    go_wp2
    obtain ⟨T1, T2, T3⟩ := stored4 BKG2.out HB.out HG2.out (.slice none 0 0) (.slice none 0 0) (.slice none 0 0) (.slice none 0 0)
    refine bodyPost_ret (results_ct rfl _ _ G2 47 #[.slice none 0 0, .slice none 0 0, .slice none 0 0, .slice none 0 0] (0, 0) _ rfl T1 hu47 rfl (by kernel_rfl)) rfl ?_
    exact ⟨_, _, _, _, rfl, Kd.R_nil _ _ _ _ _, Kd.R_nil _ _ _ _ _, Kd.R_nil _ _ _ _ _, Kd.R_nil _ _ _ _ _, T3⟩
  have h2 : (strings_Split.f a0 (⟨#[32]⟩ : ByteArray)).bind (fun ws => impl_ParseCase.l k a0 ws 10 0 [] [] [] []) = some (r1, r2, r3, r4, r5) := by unfold impl_ParseCase.f at h; rw [if_neg cn] at h; exact h
  clear h
  have cn1 : (a0.toList == ([110, 111, 110, 101] : List UInt8)) = false := beq_eq_false_iff_ne.mpr cn
  clear cn
  obtain ⟨ws, hps, h⟩ := Option.bind_eq_some_iff.mp h2
  clear h2
  have HS := Aside0.mk hps
  clear hps
  go_wp2_with (first | (go_at_call 53; (with_reducible refine (strings_Split.calls a0 (⟨#[32]⟩ : ByteArray) ws _ HS.out (Tabs.below HT0.out HB.out)).mono ?_); rintro e w5 ⟨v5, rfl, ho, hb⟩; obtain ⟨A5, c5, rfl⟩ := Kd.R_slice ho; have n0_ := Aside0.mk (below_step HB.out hb); have m0_ := Aside0.mk (blk_below BKG2.out hb); have m1_ := Aside0.mk (blk_below BKG4.out hb); have m2_ := Aside0.mk (Fam.below HF.out hb); clear HB BKG2 BKG4 HF; have HB := n0_; have BKG2 := m0_; have BKG4 := m1_; have HF := m2_; clear n0_ m0_ m1_ m2_; have HP := Aside0.mk ho; clear ho; clear hb))
  clear cn1
  go_loopg [16] 9 (fun kq v16 W => ∃ (i : Int) (v0 v1 v2 v3 : Value) (x0 x1 x2 x3 : List Int), v16 = .int .i64 i ∧ Aside0 (i + kq = 9 ∧ 0 ≤ i ∧ (x0.length : Int) = i ∧ i ≤ 8) ∧ Aside0 (impl_ParseCase.l k a0 ws (kq + 1) i x0 x1 x2 x3 = some (r1, r2, r3, r4, r5)) ∧ Aside0 ((x0.length ≤ 100 - kq ∧ x1.length ≤ 100 - kq) ∧ x2.length ≤ 100 - kq ∧ x3.length ≤ 100 - kq) ∧ Aside0 (W.heap[G4]? = some (.cells #[v0, v1, v2, v3] 47 (0, 0))) ∧ Aside0 (W.heap[G2]? = some (.cells #[.slice none 0 0, .slice none 0 0, .slice none 0 0, .slice none 0 0] 47 (0, 0))) ∧ Aside0 (Fam W w.heap.size ([(v0, x0), (v1, x1), (v2, x2), (v3, x3)] : List (Value × List Int))) ∧ Aside0 (Kd.string.R 9 W w4.heap.size (fun _ => True) (.slice A5 ws.length c5) ws) ∧ Aside0 (Below w.heap.size w W))
  case atStart => exact ⟨0, _, _, _, _, [], [], [], [], rfl, ⟨by simp⟩, ⟨h⟩, ⟨by simp⟩, BKG4, BKG2, HF, HP, HB⟩
  case round =>
    clear HB BKG4 BKG2 HP HF h HS
    obtain ⟨i, v0, v1, v2, v3, x0, x1, x2, x3, rfl, HI, HA, HL, BKG4, BKG2, HF, HP, HB⟩ := hrel
    obtain ⟨Ax0, cx0, rfl⟩ := Kd.R_slice (HF.out.get 0 rfl)
    obtain ⟨Ax1, cx1, rfl⟩ := Kd.R_slice (HF.out.get 1 rfl)
    obtain ⟨Ax2, cx2, rfl⟩ := Kd.R_slice (HF.out.get 2 rfl)
    obtain ⟨Ax3, cx3, rfl⟩ := Kd.R_slice (HF.out.get 3 rfl)
    have hc4_0 : wr.cell? ⟨G4, 0, none⟩ = some (.slice Ax0 x0.length cx0) := (blk_cell BKG4.out 0).trans rfl; have hf4_0 := blk_frozen BKG4.out 0; have hc4_1 : wr.cell? ⟨G4, 1, none⟩ = some (.slice Ax1 x1.length cx1) := (blk_cell BKG4.out 1).trans rfl; have hf4_1 := blk_frozen BKG4.out 1; have hc4_2 : wr.cell? ⟨G4, 2, none⟩ = some (.slice Ax2 x2.length cx2) := (blk_cell BKG4.out 2).trans rfl; have hf4_2 := blk_frozen BKG4.out 2; have hc4_3 : wr.cell? ⟨G4, 3, none⟩ = some (.slice Ax3 x3.length cx3) := (blk_cell BKG4.out 3).trans rfl; have hf4_3 := blk_frozen BKG4.out 3
    have hc2_0 : wr.cell? ⟨G2, 0, none⟩ = some (.slice none 0 0) := (blk_cell BKG2.out 0).trans rfl; have hf2_0 := blk_frozen BKG2.out 0; have hc2_1 : wr.cell? ⟨G2, 1, none⟩ = some (.slice none 0 0) := (blk_cell BKG2.out 1).trans rfl; have hf2_1 := blk_frozen BKG2.out 1; have hc2_2 : wr.cell? ⟨G2, 2, none⟩ = some (.slice none 0 0) := (blk_cell BKG2.out 2).trans rfl; have hf2_2 := blk_frozen BKG2.out 2; have hc2_3 : wr.cell? ⟨G2, 3, none⟩ = some (.slice none 0 0) := (blk_cell BKG2.out 3).trans rfl; have hf2_3 := blk_frozen BKG2.out 3
    have H := HA.out
    clear HA
    simp only [impl_ParseCase.l] at H
    by_cases cl : i < (ws.length : Int)
    · rw [if_pos cl] at H
      obtain ⟨⟨rr, okr⟩, A690, H⟩ := Option.bind_eq_some_iff.mp H
      have A69 := Aside0.mk A690
      clear A690
      have p1 : 0 ≤ i := HI.out.2.1
      have q1 : i < (ws.length : Int) := cl
      have q1b : decide (i < (ws.length : Int)) = true := decide_eq_true q1
      clear cl
      obtain ⟨ad, ead, hx0⟩ := Kd.at_string (Kd.R_reads' HP.out).2.2 i p1 q1
      cases ead
      replace p1 := eq_true p1
      replace q1 := eq_true q1
      cases okr with
      | false =>
        have H : some ((([] : List Int), ([] : List Int), ([] : List Int), ([] : List Int), false) : List Int × List Int × List Int × List Int × Bool) = some (r1, r2, r3, r4, r5) := H
        simp only [Option.some.injEq, Prod.mk.injEq] at H
        obtain ⟨rfl, rfl, rfl, rfl, rfl⟩ := H
        go_wp2_with (first | (go_at_call 69; (with_reducible refine (impl_readNumbers.calls k (rdOf ByteArray.empty ws i) (⟨#[47]⟩ : ByteArray) _ _ _ A69.out (Tabs.below HT0.out HB.out)).mono ?_); rintro e w69 ⟨vl, rfl, ho, hb⟩; obtain ⟨Al, cl_, rfl⟩ := Kd.R_slice ho; have n0_ := Aside0.mk (below_step HB.out hb); have n9_ := Aside0.mk (show Fam w69 w.heap.size ([(.slice Ax0 x0.length cx0, x0), (.slice Ax1 x1.length cx1, x1), (.slice Ax2 x2.length cx2, x2), (.slice Ax3 x3.length cx3, x3), (.slice Al rr.length cl_, rr), (.slice none 0 0, []), (.slice none 0 0, []), (.slice none 0 0, []), (.slice none 0 0, [])] : List (Value × List Int)) from ((((HF.out.called hb ho HB.out.size).nils).nils).nils).nils); clear hc4_0 hf4_0 hc4_1 hf4_1 hc4_2 hf4_2 hc4_3 hf4_3; clear hc2_0 hf2_0 hc2_1 hf2_1 hc2_2 hf2_2 hc2_3 hf2_3; have m0_ := Aside0.mk (blk_below BKG2.out hb); have m1_ := Aside0.mk (blk_below BKG4.out hb); have m2_ := Aside0.mk (Fam.below HF.out hb); have m3_ := Aside0.mk (Kd.R_below HP.out hb); clear HB BKG2 BKG4 HF HP; have HB := n0_; have BKG2 := m0_; have BKG4 := m1_; have HF := m2_; have HP := m3_; clear n0_ m0_ m1_ m2_ m3_; have HF9 := n9_; clear n9_ ho hb; have hc4_0 : w69.cell? ⟨G4, 0, none⟩ = some (.slice Ax0 x0.length cx0) := (blk_cell BKG4.out 0).trans rfl; have hf4_0 := blk_frozen BKG4.out 0; have hc4_1 : w69.cell? ⟨G4, 1, none⟩ = some (.slice Ax1 x1.length cx1) := (blk_cell BKG4.out 1).trans rfl; have hf4_1 := blk_frozen BKG4.out 1; have hc4_2 : w69.cell? ⟨G4, 2, none⟩ = some (.slice Ax2 x2.length cx2) := (blk_cell BKG4.out 2).trans rfl; have hf4_2 := blk_frozen BKG4.out 2; have hc4_3 : w69.cell? ⟨G4, 3, none⟩ = some (.slice Ax3 x3.length cx3) := (blk_cell BKG4.out 3).trans rfl; have hf4_3 := blk_frozen BKG4.out 3; have hc2_0 : w69.cell? ⟨G2, 0, none⟩ = some (.slice none 0 0) := (blk_cell BKG2.out 0).trans rfl; have hf2_0 := blk_frozen BKG2.out 0; have hc2_1 : w69.cell? ⟨G2, 1, none⟩ = some (.slice none 0 0) := (blk_cell BKG2.out 1).trans rfl; have hf2_1 := blk_frozen BKG2.out 1; have hc2_2 : w69.cell? ⟨G2, 2, none⟩ = some (.slice none 0 0) := (blk_cell BKG2.out 2).trans rfl; have hf2_2 := blk_frozen BKG2.out 2; have hc2_3 : w69.cell? ⟨G2, 3, none⟩ = some (.slice none 0 0) := (blk_cell BKG2.out 3).trans rfl; have hf2_3 := blk_frozen BKG2.out 3))
        obtain ⟨T1, T2, T3⟩ := stored4 BKG2.out HB.out HG2.out (.slice none 0 0) (.slice none 0 0) (.slice none 0 0) (.slice none 0 0)
        refine bodyPost_ret (results_ct rfl _ _ G2 47 #[.slice none 0 0, .slice none 0 0, .slice none 0 0, .slice none 0 0] (0, 0) _ rfl T1 hu47 rfl (by kernel_rfl)) rfl ?_
        exact ⟨_, _, _, _, rfl, Kd.R_nil _ _ _ _ _, Kd.R_nil _ _ _ _ _, Kd.R_nil _ _ _ _ _, Kd.R_nil _ _ _ _ _, T3⟩
      | true =>
        have H : (if rr.length = 4 then (if x0.length = 8 then some ([], [], [], [], false) else impl_ParseCase.l k a0 ws gk (i + 1) (x0 ++ [rd rr 0]) (x1 ++ [rd rr 1]) (x2 ++ [rd rr 2]) (x3 ++ [rd rr 3])) else some ([], [], [], [], false)) = some (r1, r2, r3, r4, r5) := H
        by_cases c4 : rr.length = 4
        rotate_left
        · rw [if_neg c4] at H
          have H : some ((([] : List Int), ([] : List Int), ([] : List Int), ([] : List Int), false) : List Int × List Int × List Int × List Int × Bool) = some (r1, r2, r3, r4, r5) := H
          simp only [Option.some.injEq, Prod.mk.injEq] at H
          obtain ⟨rfl, rfl, rfl, rfl, rfl⟩ := H
          have c4i : ¬ ((rr.length : Int) = 4) := by omega
          clear c4
          go_wp2_with (first | (go_at_call 69; (with_reducible refine (impl_readNumbers.calls k (rdOf ByteArray.empty ws i) (⟨#[47]⟩ : ByteArray) _ _ _ A69.out (Tabs.below HT0.out HB.out)).mono ?_); rintro e w69 ⟨vl, rfl, ho, hb⟩; obtain ⟨Al, cl_, rfl⟩ := Kd.R_slice ho; have n0_ := Aside0.mk (below_step HB.out hb); have n9_ := Aside0.mk (show Fam w69 w.heap.size ([(.slice Ax0 x0.length cx0, x0), (.slice Ax1 x1.length cx1, x1), (.slice Ax2 x2.length cx2, x2), (.slice Ax3 x3.length cx3, x3), (.slice Al rr.length cl_, rr), (.slice none 0 0, []), (.slice none 0 0, []), (.slice none 0 0, []), (.slice none 0 0, [])] : List (Value × List Int)) from ((((HF.out.called hb ho HB.out.size).nils).nils).nils).nils); clear hc4_0 hf4_0 hc4_1 hf4_1 hc4_2 hf4_2 hc4_3 hf4_3; clear hc2_0 hf2_0 hc2_1 hf2_1 hc2_2 hf2_2 hc2_3 hf2_3; have m0_ := Aside0.mk (blk_below BKG2.out hb); have m1_ := Aside0.mk (blk_below BKG4.out hb); have m2_ := Aside0.mk (Fam.below HF.out hb); have m3_ := Aside0.mk (Kd.R_below HP.out hb); clear HB BKG2 BKG4 HF HP; have HB := n0_; have BKG2 := m0_; have BKG4 := m1_; have HF := m2_; have HP := m3_; clear n0_ m0_ m1_ m2_ m3_; have HF9 := n9_; clear n9_ ho hb; have hc4_0 : w69.cell? ⟨G4, 0, none⟩ = some (.slice Ax0 x0.length cx0) := (blk_cell BKG4.out 0).trans rfl; have hf4_0 := blk_frozen BKG4.out 0; have hc4_1 : w69.cell? ⟨G4, 1, none⟩ = some (.slice Ax1 x1.length cx1) := (blk_cell BKG4.out 1).trans rfl; have hf4_1 := blk_frozen BKG4.out 1; have hc4_2 : w69.cell? ⟨G4, 2, none⟩ = some (.slice Ax2 x2.length cx2) := (blk_cell BKG4.out 2).trans rfl; have hf4_2 := blk_frozen BKG4.out 2; have hc4_3 : w69.cell? ⟨G4, 3, none⟩ = some (.slice Ax3 x3.length cx3) := (blk_cell BKG4.out 3).trans rfl; have hf4_3 := blk_frozen BKG4.out 3; have hc2_0 : w69.cell? ⟨G2, 0, none⟩ = some (.slice none 0 0) := (blk_cell BKG2.out 0).trans rfl; have hf2_0 := blk_frozen BKG2.out 0; have hc2_1 : w69.cell? ⟨G2, 1, none⟩ = some (.slice none 0 0) := (blk_cell BKG2.out 1).trans rfl; have hf2_1 := blk_frozen BKG2.out 1; have hc2_2 : w69.cell? ⟨G2, 2, none⟩ = some (.slice none 0 0) := (blk_cell BKG2.out 2).trans rfl; have hf2_2 := blk_frozen BKG2.out 2; have hc2_3 : w69.cell? ⟨G2, 3, none⟩ = some (.slice none 0 0) := (blk_cell BKG2.out 3).trans rfl; have hf2_3 := blk_frozen BKG2.out 3))
          obtain ⟨T1, T2, T3⟩ := stored4 BKG2.out HB.out HG2.out (.slice none 0 0) (.slice none 0 0) (.slice none 0 0) (.slice none 0 0)
          refine bodyPost_ret (results_ct rfl _ _ G2 47 #[.slice none 0 0, .slice none 0 0, .slice none 0 0, .slice none 0 0] (0, 0) _ rfl T1 hu47 rfl (by kernel_rfl)) rfl ?_
          exact ⟨_, _, _, _, rfl, Kd.R_nil _ _ _ _ _, Kd.R_nil _ _ _ _ _, Kd.R_nil _ _ _ _ _, Kd.R_nil _ _ _ _ _, T3⟩
        rw [if_pos c4] at H
        obtain ⟨m0, m1, m2, m3, rfl⟩ := quad_of rr c4
        clear c4
        by_cases c8 : x0.length = 8
        · rw [if_pos c8] at H
          have H : some ((([] : List Int), ([] : List Int), ([] : List Int), ([] : List Int), false) : List Int × List Int × List Int × List Int × Bool) = some (r1, r2, r3, r4, r5) := H
          simp only [Option.some.injEq, Prod.mk.injEq] at H
          obtain ⟨rfl, rfl, rfl, rfl, rfl⟩ := H
          have c8i : (x0.length : Int) = 8 := by omega
          have c8b : decide ((x0.length : Int) = 8) = true := decide_eq_true c8i
          clear c8
          go_wp2_with (first | (go_at_call 69; (with_reducible refine (impl_readNumbers.calls k (rdOf ByteArray.empty ws i) (⟨#[47]⟩ : ByteArray) _ _ _ A69.out (Tabs.below HT0.out HB.out)).mono ?_); rintro e w69 ⟨vl, rfl, ho, hb⟩; obtain ⟨Al, cl_, rfl⟩ := Kd.R_slice ho; have n0_ := Aside0.mk (below_step HB.out hb); have n9_ := Aside0.mk (show Fam w69 w.heap.size ([(.slice Ax0 x0.length cx0, x0), (.slice Ax1 x1.length cx1, x1), (.slice Ax2 x2.length cx2, x2), (.slice Ax3 x3.length cx3, x3), (.slice Al 4 cl_, [m0, m1, m2, m3]), (.slice none 0 0, []), (.slice none 0 0, []), (.slice none 0 0, []), (.slice none 0 0, [])] : List (Value × List Int)) from ((((HF.out.called hb ho HB.out.size).nils).nils).nils).nils); clear hc4_0 hf4_0 hc4_1 hf4_1 hc4_2 hf4_2 hc4_3 hf4_3; clear hc2_0 hf2_0 hc2_1 hf2_1 hc2_2 hf2_2 hc2_3 hf2_3; have m0_ := Aside0.mk (blk_below BKG2.out hb); have m1_ := Aside0.mk (blk_below BKG4.out hb); have m2_ := Aside0.mk (Fam.below HF.out hb); have m3_ := Aside0.mk (Kd.R_below HP.out hb); clear HB BKG2 BKG4 HF HP; have HB := n0_; have BKG2 := m0_; have BKG4 := m1_; have HF := m2_; have HP := m3_; clear n0_ m0_ m1_ m2_ m3_; have HF9 := n9_; clear n9_ ho hb; have hc4_0 : w69.cell? ⟨G4, 0, none⟩ = some (.slice Ax0 x0.length cx0) := (blk_cell BKG4.out 0).trans rfl; have hf4_0 := blk_frozen BKG4.out 0; have hc4_1 : w69.cell? ⟨G4, 1, none⟩ = some (.slice Ax1 x1.length cx1) := (blk_cell BKG4.out 1).trans rfl; have hf4_1 := blk_frozen BKG4.out 1; have hc4_2 : w69.cell? ⟨G4, 2, none⟩ = some (.slice Ax2 x2.length cx2) := (blk_cell BKG4.out 2).trans rfl; have hf4_2 := blk_frozen BKG4.out 2; have hc4_3 : w69.cell? ⟨G4, 3, none⟩ = some (.slice Ax3 x3.length cx3) := (blk_cell BKG4.out 3).trans rfl; have hf4_3 := blk_frozen BKG4.out 3; have hc2_0 : w69.cell? ⟨G2, 0, none⟩ = some (.slice none 0 0) := (blk_cell BKG2.out 0).trans rfl; have hf2_0 := blk_frozen BKG2.out 0; have hc2_1 : w69.cell? ⟨G2, 1, none⟩ = some (.slice none 0 0) := (blk_cell BKG2.out 1).trans rfl; have hf2_1 := blk_frozen BKG2.out 1; have hc2_2 : w69.cell? ⟨G2, 2, none⟩ = some (.slice none 0 0) := (blk_cell BKG2.out 2).trans rfl; have hf2_2 := blk_frozen BKG2.out 2; have hc2_3 : w69.cell? ⟨G2, 3, none⟩ = some (.slice none 0 0) := (blk_cell BKG2.out 3).trans rfl; have hf2_3 := blk_frozen BKG2.out 3))
          obtain ⟨T1, T2, T3⟩ := stored4 BKG2.out HB.out HG2.out (.slice none 0 0) (.slice none 0 0) (.slice none 0 0) (.slice none 0 0)
          refine bodyPost_ret (results_ct rfl _ _ G2 47 #[.slice none 0 0, .slice none 0 0, .slice none 0 0, .slice none 0 0] (0, 0) _ rfl T1 hu47 rfl (by kernel_rfl)) rfl ?_
          exact ⟨_, _, _, _, rfl, Kd.R_nil _ _ _ _ _, Kd.R_nil _ _ _ _ _, Kd.R_nil _ _ _ _ _, Kd.R_nil _ _ _ _ _, T3⟩
        rw [if_neg c8] at H
        have c8i : ¬ ((x0.length : Int) = 8) := by omega
        cases gk with
        | zero => exfalso; have := HI.out; omega
        | succ k1 =>
        have H : impl_ParseCase.l k a0 ws (k1 + 1) (i + 1) (x0 ++ [m0]) (x1 ++ [m1]) (x2 ++ [m2]) (x3 ++ [m3]) = some (r1, r2, r3, r4, r5) := H
        have H' := Aside0.mk H
        clear H
        have HC8 := Aside0.mk c8
        clear c8
        go_wp2_with (first | (go_at_call 69; (with_reducible refine (impl_readNumbers.calls k (rdOf ByteArray.empty ws i) (⟨#[47]⟩ : ByteArray) _ _ _ A69.out (Tabs.below HT0.out HB.out)).mono ?_); rintro e w69 ⟨vl, rfl, ho, hb⟩; obtain ⟨Al, cl_, rfl⟩ := Kd.R_slice ho; have n0_ := Aside0.mk (below_step HB.out hb); have n9_ := Aside0.mk (show Fam w69 w.heap.size ([(.slice Ax0 x0.length cx0, x0), (.slice Ax1 x1.length cx1, x1), (.slice Ax2 x2.length cx2, x2), (.slice Ax3 x3.length cx3, x3), (.slice Al 4 cl_, [m0, m1, m2, m3]), (.slice none 0 0, []), (.slice none 0 0, []), (.slice none 0 0, []), (.slice none 0 0, [])] : List (Value × List Int)) from ((((HF.out.called hb ho HB.out.size).nils).nils).nils).nils); clear hc4_0 hf4_0 hc4_1 hf4_1 hc4_2 hf4_2 hc4_3 hf4_3; clear hc2_0 hf2_0 hc2_1 hf2_1 hc2_2 hf2_2 hc2_3 hf2_3; have m0_ := Aside0.mk (blk_below BKG2.out hb); have m1_ := Aside0.mk (blk_below BKG4.out hb); have m2_ := Aside0.mk (Fam.below HF.out hb); have m3_ := Aside0.mk (Kd.R_below HP.out hb); clear HB BKG2 BKG4 HF HP; have HB := n0_; have BKG2 := m0_; have BKG4 := m1_; have HF := m2_; have HP := m3_; clear n0_ m0_ m1_ m2_ m3_; have HF9 := n9_; clear n9_ ho hb; have hc4_0 : w69.cell? ⟨G4, 0, none⟩ = some (.slice Ax0 x0.length cx0) := (blk_cell BKG4.out 0).trans rfl; have hf4_0 := blk_frozen BKG4.out 0; have hc4_1 : w69.cell? ⟨G4, 1, none⟩ = some (.slice Ax1 x1.length cx1) := (blk_cell BKG4.out 1).trans rfl; have hf4_1 := blk_frozen BKG4.out 1; have hc4_2 : w69.cell? ⟨G4, 2, none⟩ = some (.slice Ax2 x2.length cx2) := (blk_cell BKG4.out 2).trans rfl; have hf4_2 := blk_frozen BKG4.out 2; have hc4_3 : w69.cell? ⟨G4, 3, none⟩ = some (.slice Ax3 x3.length cx3) := (blk_cell BKG4.out 3).trans rfl; have hf4_3 := blk_frozen BKG4.out 3; have hc2_0 : w69.cell? ⟨G2, 0, none⟩ = some (.slice none 0 0) := (blk_cell BKG2.out 0).trans rfl; have hf2_0 := blk_frozen BKG2.out 0; have hc2_1 : w69.cell? ⟨G2, 1, none⟩ = some (.slice none 0 0) := (blk_cell BKG2.out 1).trans rfl; have hf2_1 := blk_frozen BKG2.out 1; have hc2_2 : w69.cell? ⟨G2, 2, none⟩ = some (.slice none 0 0) := (blk_cell BKG2.out 2).trans rfl; have hf2_2 := blk_frozen BKG2.out 2; have hc2_3 : w69.cell? ⟨G2, 3, none⟩ = some (.slice none 0 0) := (blk_cell BKG2.out 3).trans rfl; have hf2_3 := blk_frozen BKG2.out 3))
        clear hc4_0 hf4_0 hc4_1 hf4_1 hc4_2 hf4_2 hc4_3 hf4_3
        clear hc2_0 hf2_0 hc2_1 hf2_1 hc2_2 hf2_2 hc2_3 hf2_3
        obtain ⟨gl, cl2, el, _⟩ := Kd.R_form (HF9.out.get 4 rfl) (by simp)
        rw [show ([m0, m1, m2, m3] : List Int).length = 4 from rfl] at el
        injection el with el1 el2 el3
        subst el1 el3
        clear el2 HF
        obtain ⟨y0, hy0⟩ : ∃ y : List Int, y = x0 ++ [m0] := ⟨_, rfl⟩
        have NY0 := Aside0.mk hy0
        clear hy0
        obtain ⟨y1, hy1⟩ : ∃ y : List Int, y = x1 ++ [m1] := ⟨_, rfl⟩
        have NY1 := Aside0.mk hy1
        clear hy1
        obtain ⟨y2, hy2⟩ : ∃ y : List Int, y = x2 ++ [m2] := ⟨_, rfl⟩
        have NY2 := Aside0.mk hy2
        clear hy2
        obtain ⟨y3, hy3⟩ : ∃ y : List Int, y = x3 ++ [m3] := ⟨_, rfl⟩
        have NY3 := Aside0.mk hy3
        clear hy3
        have H'' := H'.out
        rw [← NY0.out, ← NY1.out, ← NY2.out, ← NY3.out] at H''
        have H9 := Aside0.mk H''
        clear H'' H'
        have HF := Aside0.mk (HF9.out.below (below_drew1 (Below.refl w69.heap.size w69)))
        clear HF9
        have n0_ := Aside0.mk (below_drew1 HB.out)
        have n1_ := Aside0.mk (Kd.R_drew HP.out)
        have n2_ := Aside0.mk (blk_drew BKG2.out)
        have n3_ := Aside0.mk (blk_drew BKG4.out)
        clear HB HP BKG2 BKG4
        have HB := n0_
        have HP := n1_
        have BKG2 := n2_
        have BKG4 := n3_
        clear n0_ n1_ n2_ n3_
        refine start_ (n := 36) (S := fun W_ => W_.heap[G4]? = some (.cells #[.slice Ax0 x0.length cx0, .slice Ax1 x1.length cx1, .slice Ax2 x2.length cx2, .slice Ax3 x3.length cx3] 47 (0, 0)) ∧ W_.cell? ⟨gl, 0, none⟩ = some (.int .i64 m0) ∧ W_.cell? ⟨gl, 1, none⟩ = some (.int .i64 m1) ∧ W_.cell? ⟨gl, 2, none⟩ = some (.int .i64 m2) ∧ W_.cell? ⟨gl, 3, none⟩ = some (.int .i64 m3)) (ds := [29, 31, 33, 35]) #[false, false, false, false, false, false, false, false, false, false, false, false, false, false, false, false, false, false, false, false, false, false, false, false, false, false, false, false, false, false, false, false, false, false, false, false] (by kernel_rfl) rfl rfl ⟨BKG4.out, HF.out.cells4 4 rfl⟩ (fun hHeld => ?_); refine with_tabW impl_ParseCase.tab10 impl_ParseCase.bits10 (fun HT_ HW_ => ?_)
        refine pure_ (i := 0) (N := some 39) (v := ?_) (a' := ?_) #[true, false, false, false, false, false, false, false, false, false, false, false, false, false, false, false, false, false, false, false, false, false, false, false, false, false, false, false, false, false, false, false, false, false, false, false] rfl rfl (any_of HT_.out (by kernel_rfl)) (fun _ _ _ h => h) (Or.inl ⟨by rfl, ?_⟩) ?_ ?_
        rotate_left
        · intro w'
          go_simp
          with_reducible rfl
        rotate_left
        · simp only [Act.put, List.setIfInBounds_toArray, List.set_cons_zero, List.set_cons_succ, i64_w, i32_w]
          rfl
        refine take_ (i := 1) (N := some 40) (v := ?_) (a' := ?_) #[true, true, false, false, false, false, false, false, false, false, false, false, false, false, false, false, false, false, false, false, false, false, false, false, false, false, false, false, false, false, false, false, false, false, false, false] rfl rfl (take_ofW HT_.out HW_.out (by kernel_rfl)) (fun _ _ _ h => h) (Or.inl ⟨by rfl, ?_⟩) hHeld ?_ ?_
        rotate_left
        · rintro w' ⟨s0, s1, s2, s3, s4⟩
          have s_ := (blk_cell s0 0).trans (show _ = some (.slice Ax0 x0.length cx0 : Value) from rfl)
          go_simp
          with_reducible rfl
        rotate_left
        · simp only [Act.put, List.setIfInBounds_toArray, List.set_cons_zero, List.set_cons_succ, i64_w, i32_w]
          rfl
        refine pure_ (i := 2) (N := some 41) (v := ?_) (a' := ?_) #[true, true, true, false, false, false, false, false, false, false, false, false, false, false, false, false, false, false, false, false, false, false, false, false, false, false, false, false, false, false, false, false, false, false, false, false] rfl rfl (any_of HT_.out (by kernel_rfl)) (fun _ _ _ h => h) (Or.inl ⟨by rfl, ?_⟩) ?_ ?_
        rotate_left
        · intro w'
          go_simp
          with_reducible rfl
        rotate_left
        · simp only [Act.put, List.setIfInBounds_toArray, List.set_cons_zero, List.set_cons_succ, i64_w, i32_w]
          rfl
        refine pure_ (i := 3) (N := some 42) (v := ?_) (a' := ?_) #[true, true, true, true, false, false, false, false, false, false, false, false, false, false, false, false, false, false, false, false, false, false, false, false, false, false, false, false, false, false, false, false, false, false, false, false] rfl rfl (any_of HT_.out (by kernel_rfl)) (fun _ _ _ h => h) (Or.inl ⟨by rfl, ?_⟩) ?_ ?_
        rotate_left
        · intro w'
          go_simp
          with_reducible rfl
        rotate_left
        · simp only [Act.put, List.setIfInBounds_toArray, List.set_cons_zero, List.set_cons_succ, i64_w, i32_w]
          rfl
        refine take_ (i := 4) (N := some 43) (v := ?_) (a' := ?_) #[true, true, true, true, true, false, false, false, false, false, false, false, false, false, false, false, false, false, false, false, false, false, false, false, false, false, false, false, false, false, false, false, false, false, false, false] rfl rfl (take_ofW HT_.out HW_.out (by kernel_rfl)) (fun _ _ _ h => h) (Or.inl ⟨by rfl, ?_⟩) hHeld ?_ ?_
        rotate_left
        · rintro w' ⟨s0, s1, s2, s3, s4⟩
          have s_ := s1
          go_simp
          with_reducible rfl
        rotate_left
        · simp only [Act.put, List.setIfInBounds_toArray, List.set_cons_zero, List.set_cons_succ, i64_w, i32_w]
          rfl
        refine pure_ (i := 7) (N := some 46) (v := ?_) (a' := ?_) #[true, true, true, true, true, false, false, true, false, false, false, false, false, false, false, false, false, false, false, false, false, false, false, false, false, false, false, false, false, false, false, false, false, false, false, false] rfl rfl (any_of HT_.out (by kernel_rfl)) (fun _ _ _ h => h) (Or.inl ⟨by rfl, ?_⟩) ?_ ?_
        rotate_left
        · intro w'
          go_simp
          with_reducible rfl
        rotate_left
        · simp only [Act.put, List.setIfInBounds_toArray, List.set_cons_zero, List.set_cons_succ, i64_w, i32_w]
          rfl
        refine take_ (i := 8) (N := some 47) (v := ?_) (a' := ?_) #[true, true, true, true, true, false, false, true, true, false, false, false, false, false, false, false, false, false, false, false, false, false, false, false, false, false, false, false, false, false, false, false, false, false, false, false] rfl rfl (take_ofW HT_.out HW_.out (by kernel_rfl)) (fun _ _ _ h => h) (Or.inl ⟨by rfl, ?_⟩) hHeld ?_ ?_
        rotate_left
        · rintro w' ⟨s0, s1, s2, s3, s4⟩
          have s_ := (blk_cell s0 1).trans (show _ = some (.slice Ax1 x1.length cx1 : Value) from rfl)
          go_simp
          with_reducible rfl
        rotate_left
        · simp only [Act.put, List.setIfInBounds_toArray, List.set_cons_zero, List.set_cons_succ, i64_w, i32_w]
          rfl
        refine pure_ (i := 9) (N := some 48) (v := ?_) (a' := ?_) #[true, true, true, true, true, false, false, true, true, true, false, false, false, false, false, false, false, false, false, false, false, false, false, false, false, false, false, false, false, false, false, false, false, false, false, false] rfl rfl (any_of HT_.out (by kernel_rfl)) (fun _ _ _ h => h) (Or.inl ⟨by rfl, ?_⟩) ?_ ?_
        rotate_left
        · intro w'
          go_simp
          with_reducible rfl
        rotate_left
        · simp only [Act.put, List.setIfInBounds_toArray, List.set_cons_zero, List.set_cons_succ, i64_w, i32_w]
          rfl
        refine pure_ (i := 10) (N := some 49) (v := ?_) (a' := ?_) #[true, true, true, true, true, false, false, true, true, true, true, false, false, false, false, false, false, false, false, false, false, false, false, false, false, false, false, false, false, false, false, false, false, false, false, false] rfl rfl (any_of HT_.out (by kernel_rfl)) (fun _ _ _ h => h) (Or.inl ⟨by rfl, ?_⟩) ?_ ?_
        rotate_left
        · intro w'
          go_simp
          with_reducible rfl
        rotate_left
        · simp only [Act.put, List.setIfInBounds_toArray, List.set_cons_zero, List.set_cons_succ, i64_w, i32_w]
          rfl
        refine take_ (i := 11) (N := some 50) (v := ?_) (a' := ?_) #[true, true, true, true, true, false, false, true, true, true, true, true, false, false, false, false, false, false, false, false, false, false, false, false, false, false, false, false, false, false, false, false, false, false, false, false] rfl rfl (take_ofW HT_.out HW_.out (by kernel_rfl)) (fun _ _ _ h => h) (Or.inl ⟨by rfl, ?_⟩) hHeld ?_ ?_
        rotate_left
        · rintro w' ⟨s0, s1, s2, s3, s4⟩
          have s_ := s2
          go_simp
          with_reducible rfl
        rotate_left
        · simp only [Act.put, List.setIfInBounds_toArray, List.set_cons_zero, List.set_cons_succ, i64_w, i32_w]
          rfl
        refine pure_ (i := 14) (N := some 53) (v := ?_) (a' := ?_) #[true, true, true, true, true, false, false, true, true, true, true, true, false, false, true, false, false, false, false, false, false, false, false, false, false, false, false, false, false, false, false, false, false, false, false, false] rfl rfl (any_of HT_.out (by kernel_rfl)) (fun _ _ _ h => h) (Or.inl ⟨by rfl, ?_⟩) ?_ ?_
        rotate_left
        · intro w'
          go_simp
          with_reducible rfl
        rotate_left
        · simp only [Act.put, List.setIfInBounds_toArray, List.set_cons_zero, List.set_cons_succ, i64_w, i32_w]
          rfl
        refine take_ (i := 15) (N := some 54) (v := ?_) (a' := ?_) #[true, true, true, true, true, false, false, true, true, true, true, true, false, false, true, true, false, false, false, false, false, false, false, false, false, false, false, false, false, false, false, false, false, false, false, false] rfl rfl (take_ofW HT_.out HW_.out (by kernel_rfl)) (fun _ _ _ h => h) (Or.inl ⟨by rfl, ?_⟩) hHeld ?_ ?_
        rotate_left
        · rintro w' ⟨s0, s1, s2, s3, s4⟩
          have s_ := (blk_cell s0 2).trans (show _ = some (.slice Ax2 x2.length cx2 : Value) from rfl)
          go_simp
          with_reducible rfl
        rotate_left
        · simp only [Act.put, List.setIfInBounds_toArray, List.set_cons_zero, List.set_cons_succ, i64_w, i32_w]
          rfl
        refine pure_ (i := 16) (N := some 55) (v := ?_) (a' := ?_) #[true, true, true, true, true, false, false, true, true, true, true, true, false, false, true, true, true, false, false, false, false, false, false, false, false, false, false, false, false, false, false, false, false, false, false, false] rfl rfl (any_of HT_.out (by kernel_rfl)) (fun _ _ _ h => h) (Or.inl ⟨by rfl, ?_⟩) ?_ ?_
        rotate_left
        · intro w'
          go_simp
          with_reducible rfl
        rotate_left
        · simp only [Act.put, List.setIfInBounds_toArray, List.set_cons_zero, List.set_cons_succ, i64_w, i32_w]
          rfl
        refine pure_ (i := 17) (N := some 56) (v := ?_) (a' := ?_) #[true, true, true, true, true, false, false, true, true, true, true, true, false, false, true, true, true, true, false, false, false, false, false, false, false, false, false, false, false, false, false, false, false, false, false, false] rfl rfl (any_of HT_.out (by kernel_rfl)) (fun _ _ _ h => h) (Or.inl ⟨by rfl, ?_⟩) ?_ ?_
        rotate_left
        · intro w'
          go_simp
          with_reducible rfl
        rotate_left
        · simp only [Act.put, List.setIfInBounds_toArray, List.set_cons_zero, List.set_cons_succ, i64_w, i32_w]
          rfl
        refine take_ (i := 18) (N := some 57) (v := ?_) (a' := ?_) #[true, true, true, true, true, false, false, true, true, true, true, true, false, false, true, true, true, true, true, false, false, false, false, false, false, false, false, false, false, false, false, false, false, false, false, false] rfl rfl (take_ofW HT_.out HW_.out (by kernel_rfl)) (fun _ _ _ h => h) (Or.inl ⟨by rfl, ?_⟩) hHeld ?_ ?_
        rotate_left
        · rintro w' ⟨s0, s1, s2, s3, s4⟩
          have s_ := s3
          go_simp
          with_reducible rfl
        rotate_left
        · simp only [Act.put, List.setIfInBounds_toArray, List.set_cons_zero, List.set_cons_succ, i64_w, i32_w]
          rfl
        refine pure_ (i := 21) (N := some 60) (v := ?_) (a' := ?_) #[true, true, true, true, true, false, false, true, true, true, true, true, false, false, true, true, true, true, true, false, false, true, false, false, false, false, false, false, false, false, false, false, false, false, false, false] rfl rfl (any_of HT_.out (by kernel_rfl)) (fun _ _ _ h => h) (Or.inl ⟨by rfl, ?_⟩) ?_ ?_
        rotate_left
        · intro w'
          go_simp
          with_reducible rfl
        rotate_left
        · simp only [Act.put, List.setIfInBounds_toArray, List.set_cons_zero, List.set_cons_succ, i64_w, i32_w]
          rfl
        refine take_ (i := 22) (N := some 61) (v := ?_) (a' := ?_) #[true, true, true, true, true, false, false, true, true, true, true, true, false, false, true, true, true, true, true, false, false, true, true, false, false, false, false, false, false, false, false, false, false, false, false, false] rfl rfl (take_ofW HT_.out HW_.out (by kernel_rfl)) (fun _ _ _ h => h) (Or.inl ⟨by rfl, ?_⟩) hHeld ?_ ?_
        rotate_left
        · rintro w' ⟨s0, s1, s2, s3, s4⟩
          have s_ := (blk_cell s0 3).trans (show _ = some (.slice Ax3 x3.length cx3 : Value) from rfl)
          go_simp
          with_reducible rfl
        rotate_left
        · simp only [Act.put, List.setIfInBounds_toArray, List.set_cons_zero, List.set_cons_succ, i64_w, i32_w]
          rfl
        refine pure_ (i := 23) (N := some 62) (v := ?_) (a' := ?_) #[true, true, true, true, true, false, false, true, true, true, true, true, false, false, true, true, true, true, true, false, false, true, true, true, false, false, false, false, false, false, false, false, false, false, false, false] rfl rfl (any_of HT_.out (by kernel_rfl)) (fun _ _ _ h => h) (Or.inl ⟨by rfl, ?_⟩) ?_ ?_
        rotate_left
        · intro w'
          go_simp
          with_reducible rfl
        rotate_left
        · simp only [Act.put, List.setIfInBounds_toArray, List.set_cons_zero, List.set_cons_succ, i64_w, i32_w]
          rfl
        refine pure_ (i := 24) (N := some 63) (v := ?_) (a' := ?_) #[true, true, true, true, true, false, false, true, true, true, true, true, false, false, true, true, true, true, true, false, false, true, true, true, true, false, false, false, false, false, false, false, false, false, false, false] rfl rfl (any_of HT_.out (by kernel_rfl)) (fun _ _ _ h => h) (Or.inl ⟨by rfl, ?_⟩) ?_ ?_
        rotate_left
        · intro w'
          go_simp
          with_reducible rfl
        rotate_left
        · simp only [Act.put, List.setIfInBounds_toArray, List.set_cons_zero, List.set_cons_succ, i64_w, i32_w]
          rfl
        refine take_ (i := 25) (N := some 64) (v := ?_) (a' := ?_) #[true, true, true, true, true, false, false, true, true, true, true, true, false, false, true, true, true, true, true, false, false, true, true, true, true, true, false, false, false, false, false, false, false, false, false, false] rfl rfl (take_ofW HT_.out HW_.out (by kernel_rfl)) (fun _ _ _ h => h) (Or.inl ⟨by rfl, ?_⟩) hHeld ?_ ?_
        rotate_left
        · rintro w' ⟨s0, s1, s2, s3, s4⟩
          have s_ := s4
          go_simp
          with_reducible rfl
        rotate_left
        · simp only [Act.put, List.setIfInBounds_toArray, List.set_cons_zero, List.set_cons_succ, i64_w, i32_w]
          rfl
        refine join_ 7 #[true, true, true, true, true, true, true, true, true, true, true, true, true, true, true, true, true, true, true, true, true, true, true, true, true, true, true, true, true, false, false, false, false, false, false, false] (fun s : Nat × Nat × Nat × Nat × Value × Value × Value × Value => [(44, .slice (some ⟨s.1, 0, none⟩) 1 1), (51, .slice (some ⟨s.2.1, 0, none⟩) 1 1), (58, .slice (some ⟨s.2.2.1, 0, none⟩) 1 1), (65, .slice (some ⟨s.2.2.2.1, 0, none⟩) 1 1), (45, s.2.2.2.2.1), (52, s.2.2.2.2.2.1), (59, s.2.2.2.2.2.2.1), (66, s.2.2.2.2.2.2.2), (67, .pointer (some ⟨G4, 0, none⟩))]) (fun s W_ => Below w.heap.size w W_ ∧ W_.heap[G4]? = some (.cells #[.slice Ax0 x0.length cx0, .slice Ax1 x1.length cx1, .slice Ax2 x2.length cx2, .slice Ax3 x3.length cx3] 47 (0, 0)) ∧ W_.heap[G2]? = some (.cells #[.slice none 0 0, .slice none 0 0, .slice none 0 0, .slice none 0 0] 47 (0, 0)) ∧ Kd.string.R 9 W_ w4.heap.size (fun _ => True) (.slice (some ad) ws.length c5) ws ∧ Fam W_ w.heap.size ([(s.2.2.2.2.1, y0), (s.2.2.2.2.2.1, y1), (s.2.2.2.2.2.2.1, y2), (s.2.2.2.2.2.2.2, y3), (.slice (some ⟨gl, 0, none⟩) 4 cl_, [m0, m1, m2, m3]), (.slice (some ⟨s.1, 0, none⟩) 1 1, [m0]), (.slice (some ⟨s.2.1, 0, none⟩) 1 1, [m1]), (.slice (some ⟨s.2.2.1, 0, none⟩) 1 1, [m2]), (.slice (some ⟨s.2.2.2.1, 0, none⟩) 1 1, [m3])] : List (Value × List Int))) ?_ ?_
        · rintro ⟨g0, g1, g2, g3, v0, v1, v2, v3⟩ W ⟨hb, k4, k2, hp, hf⟩
          obtain ⟨At0, ct0, rfl⟩ := Kd.R_slice (hf.get 0 rfl)
          obtain ⟨At1, ct1, rfl⟩ := Kd.R_slice (hf.get 1 rfl)
          obtain ⟨At2, ct2, rfl⟩ := Kd.R_slice (hf.get 2 rfl)
          obtain ⟨At3, ct3, rfl⟩ := Kd.R_slice (hf.get 3 rfl)
          refine norm_ (a' := ?_) ?_ ?_
          rotate_left
          · show putAll _ _ = _
            simp only [putAll, Act.put, List.setIfInBounds_toArray, List.set_cons_zero, List.set_cons_succ, i64_w, i32_w]
            rfl
          clear HB BKG4 BKG2 HP HF hHeld
          obtain ⟨U1, U2, U3⟩ := stored4 k4 hb HG4.out (.slice At0 y0.length ct0) (.slice At1 y1.length ct1) (.slice At2 y2.length ct2) (.slice At3 y3.length ct3)
          have hc4_0 : W.cell? ⟨G4, 0, none⟩ = some (.slice Ax0 x0.length cx0) := (blk_cell (⟨k4⟩ : Aside0 _).out 0).trans rfl; have hf4_0 := blk_frozen (⟨k4⟩ : Aside0 _).out 0; have hc4_1 : W.cell? ⟨G4, 1, none⟩ = some (.slice Ax1 x1.length cx1) := (blk_cell (⟨k4⟩ : Aside0 _).out 1).trans rfl; have hf4_1 := blk_frozen (⟨k4⟩ : Aside0 _).out 1; have hc4_2 : W.cell? ⟨G4, 2, none⟩ = some (.slice Ax2 x2.length cx2) := (blk_cell (⟨k4⟩ : Aside0 _).out 2).trans rfl; have hf4_2 := blk_frozen (⟨k4⟩ : Aside0 _).out 2; have hc4_3 : W.cell? ⟨G4, 3, none⟩ = some (.slice Ax3 x3.length cx3) := (blk_cell (⟨k4⟩ : Aside0 _).out 3).trans rfl; have hf4_3 := blk_frozen (⟨k4⟩ : Aside0 _).out 3
          refine last_ (i := 29) (N := none) #[true, true, true, true, true, true, true, true, true, true, true, true, true, true, true, true, true, true, true, true, true, true, true, true, true, true, true, true, true, true, false, false, false, false, false, false] rfl rfl (one_of HT_.out (by kernel_rfl)) (by decide) (fun K hK => ?_)
          refine skip_ (w1 := ?_) (by rfl) rfl ?_ ?_
          rotate_left
          · go_simp
            rfl
          refine hK.out _ _ ?_
          clear hK K
          refine pure_ (i := 30) (N := some 68) (v := ?_) (a' := ?_) #[true, true, true, true, true, true, true, true, true, true, true, true, true, true, true, true, true, true, true, true, true, true, true, true, true, true, true, true, true, true, true, false, false, false, false, false] rfl rfl (any_of HT_.out (by kernel_rfl)) (fun _ _ _ h => h) (Or.inl ⟨by rfl, ?_⟩) ?_ ?_
          rotate_left
          · intro w'
            go_simp
            with_reducible rfl
          rotate_left
          · simp only [Act.put, List.setIfInBounds_toArray, List.set_cons_zero, List.set_cons_succ, i64_w, i32_w]
            rfl
          refine last_ (i := 31) (N := none) #[true, true, true, true, true, true, true, true, true, true, true, true, true, true, true, true, true, true, true, true, true, true, true, true, true, true, true, true, true, true, true, true, false, false, false, false] rfl rfl (one_of HT_.out (by kernel_rfl)) (by decide) (fun K hK => ?_)
          refine skip_ (w1 := ?_) (by rfl) rfl ?_ ?_
          rotate_left
          · go_simp
            rfl
          refine hK.out _ _ ?_
          clear hK K
          refine pure_ (i := 32) (N := some 69) (v := ?_) (a' := ?_) #[true, true, true, true, true, true, true, true, true, true, true, true, true, true, true, true, true, true, true, true, true, true, true, true, true, true, true, true, true, true, true, true, true, false, false, false] rfl rfl (any_of HT_.out (by kernel_rfl)) (fun _ _ _ h => h) (Or.inl ⟨by rfl, ?_⟩) ?_ ?_
          rotate_left
          · intro w'
            go_simp
            with_reducible rfl
          rotate_left
          · simp only [Act.put, List.setIfInBounds_toArray, List.set_cons_zero, List.set_cons_succ, i64_w, i32_w]
            rfl
          refine last_ (i := 33) (N := none) #[true, true, true, true, true, true, true, true, true, true, true, true, true, true, true, true, true, true, true, true, true, true, true, true, true, true, true, true, true, true, true, true, true, true, false, false] rfl rfl (one_of HT_.out (by kernel_rfl)) (by decide) (fun K hK => ?_)
          refine skip_ (w1 := ?_) (by rfl) rfl ?_ ?_
          rotate_left
          · go_simp
            rfl
          refine hK.out _ _ ?_
          clear hK K
          refine pure_ (i := 34) (N := some 70) (v := ?_) (a' := ?_) #[true, true, true, true, true, true, true, true, true, true, true, true, true, true, true, true, true, true, true, true, true, true, true, true, true, true, true, true, true, true, true, true, true, true, true, false] rfl rfl (any_of HT_.out (by kernel_rfl)) (fun _ _ _ h => h) (Or.inl ⟨by rfl, ?_⟩) ?_ ?_
          rotate_left
          · intro w'
            go_simp
            with_reducible rfl
          rotate_left
          · simp only [Act.put, List.setIfInBounds_toArray, List.set_cons_zero, List.set_cons_succ, i64_w, i32_w]
            rfl
          refine last_ (i := 35) (N := none) #[true, true, true, true, true, true, true, true, true, true, true, true, true, true, true, true, true, true, true, true, true, true, true, true, true, true, true, true, true, true, true, true, true, true, true, true] rfl rfl (one_of HT_.out (by kernel_rfl)) (by decide) (fun K hK => ?_)
          refine skip_ (w1 := ?_) (by rfl) rfl ?_ ?_
          rotate_left
          · go_simp
            rfl
          refine hK.out _ _ ?_
          clear hK K
          refine done_ (done_of HT_.out (by kernel_rfl)) ?_
          have f4 : Fam W w.heap.size ([(.slice At0 y0.length ct0, y0), (.slice At1 y1.length ct1, y1), (.slice At2 y2.length ct2, y2), (.slice At3 y3.length ct3, y3)] : List (Value × List Int)) := hf.first4
          have n2_ := Aside0.mk U1
          have n1_ := Aside0.mk (fr_blk k2 U2 (by have := NE.out; omega))
          have n3_ := Aside0.mk (f4.fr k4 (by decide) U2)
          have n4_ := Aside0.mk (fr_R hp k4 (by decide) U2)
          have n0_ := Aside0.mk U3
          clear hf f4 k4 k2 hp hb U1 U2 U3
          clear hc4_0 hf4_0 hc4_1 hf4_1 hc4_2 hf4_2 hc4_3 hf4_3
          have hw : wrap64 (i + 1) = i + 1 := by have := HI.out; unfold wrap64; omega
          go_wp2_with fail
          go_roundg k1
          case measure => omega
          case rel => exact ⟨i + 1, _, _, _, _, _, _, _, _, by first | rfl | rw [hw], ⟨by have := HI.out; have := HC8.out; rw [NY0.out]; simp only [List.length_append, List.length_singleton]; omega⟩, H9, ⟨by have := HL.out; have := HI.out; rw [NY0.out, NY1.out, NY2.out, NY3.out]; simp only [List.length_append, List.length_singleton]; omega⟩, n2_, n1_, n3_, n4_, n0_⟩
        intro H_
        have S0123_4 := Aside0.mk H_
        clear H_
        refine join_ 8 #[true, true, true, true, true, true, true, true, true, true, true, true, true, true, true, true, true, true, true, true, true, true, true, true, true, true, true, false, true, false, false, false, false, false, false, false] (fun s : Nat × Nat × Nat × Nat × Value × Value × Value => [(44, .slice (some ⟨s.1, 0, none⟩) 1 1), (51, .slice (some ⟨s.2.1, 0, none⟩) 1 1), (58, .slice (some ⟨s.2.2.1, 0, none⟩) 1 1), (65, .slice (some ⟨s.2.2.2.1, 0, none⟩) 1 1), (45, s.2.2.2.2.1), (52, s.2.2.2.2.2.1), (59, s.2.2.2.2.2.2), (67, .pointer (some ⟨G4, 0, none⟩))]) (fun s W_ => Below w.heap.size w W_ ∧ W_.heap[G4]? = some (.cells #[.slice Ax0 x0.length cx0, .slice Ax1 x1.length cx1, .slice Ax2 x2.length cx2, .slice Ax3 x3.length cx3] 47 (0, 0)) ∧ W_.heap[G2]? = some (.cells #[.slice none 0 0, .slice none 0 0, .slice none 0 0, .slice none 0 0] 47 (0, 0)) ∧ Kd.string.R 9 W_ w4.heap.size (fun _ => True) (.slice (some ad) ws.length c5) ws ∧ Fam W_ w.heap.size ([(s.2.2.2.2.1, y0), (s.2.2.2.2.2.1, y1), (s.2.2.2.2.2.2, y2), (.slice Ax3 x3.length cx3, x3), (.slice (some ⟨gl, 0, none⟩) 4 cl_, [m0, m1, m2, m3]), (.slice (some ⟨s.1, 0, none⟩) 1 1, [m0]), (.slice (some ⟨s.2.1, 0, none⟩) 1 1, [m1]), (.slice (some ⟨s.2.2.1, 0, none⟩) 1 1, [m2]), (.slice (some ⟨s.2.2.2.1, 0, none⟩) 1 1, [m3])] : List (Value × List Int))) ?_ ?_
        · rintro ⟨g0, g1, g2, g3, v0, v1, v2⟩ W ⟨hb, k4, k2, hp, hf⟩
          refine norm_ (a' := ?_) ?_ ?_
          rotate_left
          · show putAll _ _ = _
            simp only [putAll, Act.put, List.setIfInBounds_toArray, List.set_cons_zero, List.set_cons_succ, i64_w, i32_w]
            rfl
          refine one_ (i := 27) (N := some 66) #[true, true, true, true, true, true, true, true, true, true, true, true, true, true, true, true, true, true, true, true, true, true, true, true, true, true, true, true, true, false, false, false, false, false, false, false] rfl rfl (one_of HT_.out (by kernel_rfl)) (by decide) (fun K hK => ?_)
          · refine Kd.R_append_rows_step (Kd.int .i64) (Rr := (Kd.int .i64).K W) (w0 := w) w.heap.size (by rfl) (.tmp 61) (.tmp 65) 45 3 (.int .i64 0) 8 rfl Tryd.underlying45 info3 rfl (by decide) (by omega) (.slice Ax3 x3.length cx3) x3 [m3] (some ⟨g3, 0, none⟩) 1 1 (fun _ => True) (fun _ => False) (by rfl) (by rfl) (hf.get 3 rfl) (Kd.R_reads' (hf.get 8 rfl)).2.2 (fun _ _ h_ => h_) (fun _ h_ => h_.elim) (fun _ _ => trivial) hb hb.size (by have := HL.out; omega) ?_
            intro v3 W2 ho hb2 hg hat
            rw [← NY3.out] at ho
            have hf2 : Fam W2 w.heap.size ([(v0, y0), (v1, y1), (v2, y2), (v3, y3), (.slice (some ⟨gl, 0, none⟩) 4 cl_, [m0, m1, m2, m3]), (.slice (some ⟨g0, 0, none⟩) 1 1, [m0]), (.slice (some ⟨g1, 0, none⟩) 1 1, [m1]), (.slice (some ⟨g2, 0, none⟩) 1 1, [m2]), (.slice (some ⟨g3, 0, none⟩) 1 1, [m3])] : List (Value × List Int)) := hf.replace 3 rfl ho hg hat
            have k42 := blk_grown k4 hg (Kd.R_ne (hf.get 3 rfl) k4 (by decide))
            have k22 := blk_grown k2 hg (Kd.R_ne (hf.get 3 rfl) k2 (by decide))
            have hp2 := Kd.R_over' hp (Kd.R_typed (hf.get 3 rfl)) (by decide) hg
            refine hK.out _ _ ⟨k42, hf2.cells4 4 rfl⟩ (fun hHeld => ?_)
            clear hK K
            have hc := S0123_4.out (g0, g1, g2, g3, v0, v1, v2, v3) _ ⟨hb2, k42, k22, hp2, hf2⟩
            simp only [putAll, Act.put, List.setIfInBounds_toArray, List.set_cons_zero, List.set_cons_succ] at hc
            refine norm_ (a' := ?_) ?_ ?_
            rotate_left
            · show Act.put _ (some 66) _ = _
              simp only [Act.put, List.setIfInBounds_toArray, List.set_cons_zero, List.set_cons_succ, i64_w, i32_w]
              rfl
            exact hc
        intro H_
        have S0123_3 := Aside0.mk H_
        clear H_
        refine join_ 9 #[true, true, true, true, true, true, true, true, true, true, true, true, true, true, true, true, true, true, true, true, true, true, true, true, true, true, false, false, true, false, false, false, false, false, false, false] (fun s : Nat × Nat × Nat × Value × Value × Value => [(44, .slice (some ⟨s.1, 0, none⟩) 1 1), (51, .slice (some ⟨s.2.1, 0, none⟩) 1 1), (58, .slice (some ⟨s.2.2.1, 0, none⟩) 1 1), (45, s.2.2.2.1), (52, s.2.2.2.2.1), (59, s.2.2.2.2.2), (67, .pointer (some ⟨G4, 0, none⟩))]) (fun s W_ => Below w.heap.size w W_ ∧ W_.heap[G4]? = some (.cells #[.slice Ax0 x0.length cx0, .slice Ax1 x1.length cx1, .slice Ax2 x2.length cx2, .slice Ax3 x3.length cx3] 47 (0, 0)) ∧ W_.heap[G2]? = some (.cells #[.slice none 0 0, .slice none 0 0, .slice none 0 0, .slice none 0 0] 47 (0, 0)) ∧ Kd.string.R 9 W_ w4.heap.size (fun _ => True) (.slice (some ad) ws.length c5) ws ∧ Fam W_ w.heap.size ([(s.2.2.2.1, y0), (s.2.2.2.2.1, y1), (s.2.2.2.2.2, y2), (.slice Ax3 x3.length cx3, x3), (.slice (some ⟨gl, 0, none⟩) 4 cl_, [m0, m1, m2, m3]), (.slice (some ⟨s.1, 0, none⟩) 1 1, [m0]), (.slice (some ⟨s.2.1, 0, none⟩) 1 1, [m1]), (.slice (some ⟨s.2.2.1, 0, none⟩) 1 1, [m2]), (.slice none 0 0, [])] : List (Value × List Int))) ?_ ?_
        · rintro ⟨g0, g1, g2, v0, v1, v2⟩ W ⟨hb, k4, k2, hp, hf⟩
          refine norm_ (a' := ?_) ?_ ?_
          rotate_left
          · show putAll _ _ = _
            simp only [putAll, Act.put, List.setIfInBounds_toArray, List.set_cons_zero, List.set_cons_succ, i64_w, i32_w]
            rfl
          refine one_ (i := 26) (N := some 65) #[true, true, true, true, true, true, true, true, true, true, true, true, true, true, true, true, true, true, true, true, true, true, true, true, true, true, true, false, true, false, false, false, false, false, false, false] rfl rfl (one_of HT_.out (by kernel_rfl)) (by decide) (fun K hK => ?_)
          · refine value_ (w1 := ?_) (v := ?_) (by rfl) rfl ?_ ?_
            rotate_left 2
            · go_simp
              constructor
              · rfl
              · rfl
            have hbl := below_alloc (Below.refl W.heap.size W) (Obj.cells #[.int .i64 m3] 3)
            have hf2 : Fam (W.alloc (Obj.cells #[.int .i64 m3] 3)) w.heap.size ([(v0, y0), (v1, y1), (v2, y2), (.slice Ax3 x3.length cx3, x3), (.slice (some ⟨gl, 0, none⟩) 4 cl_, [m0, m1, m2, m3]), (.slice (some ⟨g0, 0, none⟩) 1 1, [m0]), (.slice (some ⟨g1, 0, none⟩) 1 1, [m1]), (.slice (some ⟨g2, 0, none⟩) 1 1, [m2]), (.slice (some ⟨W.heap.size, 0, none⟩) 1 1, [m3])] : List (Value × List Int)) := hf.made hb.size 8 rfl m3
            refine hK.out _ _ ⟨blk_below k4 hbl, hf2.cells4 4 rfl⟩ (fun hHeld => ?_)
            clear hK K
            have hc := S0123_3.out (g0, g1, g2, W.heap.size, v0, v1, v2) _ ⟨below_step hb hbl, blk_below k4 hbl, blk_below k2 hbl, Kd.R_below hp hbl, hf2⟩
            simp only [putAll, Act.put, List.setIfInBounds_toArray, List.set_cons_zero, List.set_cons_succ] at hc
            refine norm_ (a' := ?_) ?_ ?_
            rotate_left
            · show Act.put _ (some 65) _ = _
              simp only [Act.put, List.setIfInBounds_toArray, List.set_cons_zero, List.set_cons_succ, i64_w, i32_w]
              rfl
            exact hc
        intro H_
        have S012_3 := Aside0.mk H_
        clear H_
        refine join_ 9 #[true, true, true, true, true, true, true, true, true, true, true, true, true, true, true, true, true, true, true, true, false, true, true, true, true, true, true, false, true, false, false, false, false, false, false, false] (fun s : Nat × Nat × Nat × Nat × Value × Value => [(44, .slice (some ⟨s.1, 0, none⟩) 1 1), (51, .slice (some ⟨s.2.1, 0, none⟩) 1 1), (58, .slice (some ⟨s.2.2.1, 0, none⟩) 1 1), (65, .slice (some ⟨s.2.2.2.1, 0, none⟩) 1 1), (45, s.2.2.2.2.1), (52, s.2.2.2.2.2), (67, .pointer (some ⟨G4, 0, none⟩))]) (fun s W_ => Below w.heap.size w W_ ∧ W_.heap[G4]? = some (.cells #[.slice Ax0 x0.length cx0, .slice Ax1 x1.length cx1, .slice Ax2 x2.length cx2, .slice Ax3 x3.length cx3] 47 (0, 0)) ∧ W_.heap[G2]? = some (.cells #[.slice none 0 0, .slice none 0 0, .slice none 0 0, .slice none 0 0] 47 (0, 0)) ∧ Kd.string.R 9 W_ w4.heap.size (fun _ => True) (.slice (some ad) ws.length c5) ws ∧ Fam W_ w.heap.size ([(s.2.2.2.2.1, y0), (s.2.2.2.2.2, y1), (.slice Ax2 x2.length cx2, x2), (.slice Ax3 x3.length cx3, x3), (.slice (some ⟨gl, 0, none⟩) 4 cl_, [m0, m1, m2, m3]), (.slice (some ⟨s.1, 0, none⟩) 1 1, [m0]), (.slice (some ⟨s.2.1, 0, none⟩) 1 1, [m1]), (.slice (some ⟨s.2.2.1, 0, none⟩) 1 1, [m2]), (.slice (some ⟨s.2.2.2.1, 0, none⟩) 1 1, [m3])] : List (Value × List Int))) ?_ ?_
        · rintro ⟨g0, g1, g2, g3, v0, v1⟩ W ⟨hb, k4, k2, hp, hf⟩
          refine norm_ (a' := ?_) ?_ ?_
          rotate_left
          · show putAll _ _ = _
            simp only [putAll, Act.put, List.setIfInBounds_toArray, List.set_cons_zero, List.set_cons_succ, i64_w, i32_w]
            rfl
          refine one_ (i := 20) (N := some 59) #[true, true, true, true, true, true, true, true, true, true, true, true, true, true, true, true, true, true, true, true, true, true, true, true, true, true, true, false, true, false, false, false, false, false, false, false] rfl rfl (one_of HT_.out (by kernel_rfl)) (by decide) (fun K hK => ?_)
          · refine Kd.R_append_rows_step (Kd.int .i64) (Rr := (Kd.int .i64).K W) (w0 := w) w.heap.size (by rfl) (.tmp 54) (.tmp 58) 45 3 (.int .i64 0) 8 rfl Tryd.underlying45 info3 rfl (by decide) (by omega) (.slice Ax2 x2.length cx2) x2 [m2] (some ⟨g2, 0, none⟩) 1 1 (fun _ => True) (fun _ => False) (by rfl) (by rfl) (hf.get 2 rfl) (Kd.R_reads' (hf.get 7 rfl)).2.2 (fun _ _ h_ => h_) (fun _ h_ => h_.elim) (fun _ _ => trivial) hb hb.size (by have := HL.out; omega) ?_
            intro v2 W2 ho hb2 hg hat
            rw [← NY2.out] at ho
            have hf2 : Fam W2 w.heap.size ([(v0, y0), (v1, y1), (v2, y2), (.slice Ax3 x3.length cx3, x3), (.slice (some ⟨gl, 0, none⟩) 4 cl_, [m0, m1, m2, m3]), (.slice (some ⟨g0, 0, none⟩) 1 1, [m0]), (.slice (some ⟨g1, 0, none⟩) 1 1, [m1]), (.slice (some ⟨g2, 0, none⟩) 1 1, [m2]), (.slice (some ⟨g3, 0, none⟩) 1 1, [m3])] : List (Value × List Int)) := hf.replace 2 rfl ho hg hat
            have k42 := blk_grown k4 hg (Kd.R_ne (hf.get 2 rfl) k4 (by decide))
            have k22 := blk_grown k2 hg (Kd.R_ne (hf.get 2 rfl) k2 (by decide))
            have hp2 := Kd.R_over' hp (Kd.R_typed (hf.get 2 rfl)) (by decide) hg
            refine hK.out _ _ ⟨k42, hf2.cells4 4 rfl⟩ (fun hHeld => ?_)
            clear hK K
            have hc := S0123_3.out (g0, g1, g2, g3, v0, v1, v2) _ ⟨hb2, k42, k22, hp2, hf2⟩
            simp only [putAll, Act.put, List.setIfInBounds_toArray, List.set_cons_zero, List.set_cons_succ] at hc
            refine norm_ (a' := ?_) ?_ ?_
            rotate_left
            · show Act.put _ (some 59) _ = _
              simp only [Act.put, List.setIfInBounds_toArray, List.set_cons_zero, List.set_cons_succ, i64_w, i32_w]
              rfl
            exact hc
        intro H_
        have S0123_2 := Aside0.mk H_
        clear H_
        refine join_ 10 #[true, true, true, true, true, true, true, true, true, true, true, true, true, true, true, true, true, true, true, true, false, true, true, true, true, true, false, false, true, false, false, false, false, false, false, false] (fun s : Nat × Nat × Nat × Value × Value => [(44, .slice (some ⟨s.1, 0, none⟩) 1 1), (51, .slice (some ⟨s.2.1, 0, none⟩) 1 1), (58, .slice (some ⟨s.2.2.1, 0, none⟩) 1 1), (45, s.2.2.2.1), (52, s.2.2.2.2), (67, .pointer (some ⟨G4, 0, none⟩))]) (fun s W_ => Below w.heap.size w W_ ∧ W_.heap[G4]? = some (.cells #[.slice Ax0 x0.length cx0, .slice Ax1 x1.length cx1, .slice Ax2 x2.length cx2, .slice Ax3 x3.length cx3] 47 (0, 0)) ∧ W_.heap[G2]? = some (.cells #[.slice none 0 0, .slice none 0 0, .slice none 0 0, .slice none 0 0] 47 (0, 0)) ∧ Kd.string.R 9 W_ w4.heap.size (fun _ => True) (.slice (some ad) ws.length c5) ws ∧ Fam W_ w.heap.size ([(s.2.2.2.1, y0), (s.2.2.2.2, y1), (.slice Ax2 x2.length cx2, x2), (.slice Ax3 x3.length cx3, x3), (.slice (some ⟨gl, 0, none⟩) 4 cl_, [m0, m1, m2, m3]), (.slice (some ⟨s.1, 0, none⟩) 1 1, [m0]), (.slice (some ⟨s.2.1, 0, none⟩) 1 1, [m1]), (.slice (some ⟨s.2.2.1, 0, none⟩) 1 1, [m2]), (.slice none 0 0, [])] : List (Value × List Int))) ?_ ?_
        · rintro ⟨g0, g1, g2, v0, v1⟩ W ⟨hb, k4, k2, hp, hf⟩
          refine norm_ (a' := ?_) ?_ ?_
          rotate_left
          · show putAll _ _ = _
            simp only [putAll, Act.put, List.setIfInBounds_toArray, List.set_cons_zero, List.set_cons_succ, i64_w, i32_w]
            rfl
          refine two_ (i := 20) (j := 26) (Ni := some 59) (Nj := some 65) #[true, true, true, true, true, true, true, true, true, true, true, true, true, true, true, true, true, true, true, true, true, true, true, true, true, true, false, false, true, false, false, false, false, false, false, false] #[true, true, true, true, true, true, true, true, true, true, true, true, true, true, true, true, true, true, true, true, false, true, true, true, true, true, true, false, true, false, false, false, false, false, false, false] rfl rfl rfl rfl (two_of HT_.out (by kernel_rfl)) (by decide) (by decide) (fun K hK => ?_) (fun K hK => ?_)
          · refine Kd.R_append_rows_step (Kd.int .i64) (Rr := (Kd.int .i64).K W) (w0 := w) w.heap.size (by rfl) (.tmp 54) (.tmp 58) 45 3 (.int .i64 0) 8 rfl Tryd.underlying45 info3 rfl (by decide) (by omega) (.slice Ax2 x2.length cx2) x2 [m2] (some ⟨g2, 0, none⟩) 1 1 (fun _ => True) (fun _ => False) (by rfl) (by rfl) (hf.get 2 rfl) (Kd.R_reads' (hf.get 7 rfl)).2.2 (fun _ _ h_ => h_) (fun _ h_ => h_.elim) (fun _ _ => trivial) hb hb.size (by have := HL.out; omega) ?_
            intro v2 W2 ho hb2 hg hat
            rw [← NY2.out] at ho
            have hf2 : Fam W2 w.heap.size ([(v0, y0), (v1, y1), (v2, y2), (.slice Ax3 x3.length cx3, x3), (.slice (some ⟨gl, 0, none⟩) 4 cl_, [m0, m1, m2, m3]), (.slice (some ⟨g0, 0, none⟩) 1 1, [m0]), (.slice (some ⟨g1, 0, none⟩) 1 1, [m1]), (.slice (some ⟨g2, 0, none⟩) 1 1, [m2]), (.slice none 0 0, [])] : List (Value × List Int)) := hf.replace 2 rfl ho hg hat
            have k42 := blk_grown k4 hg (Kd.R_ne (hf.get 2 rfl) k4 (by decide))
            have k22 := blk_grown k2 hg (Kd.R_ne (hf.get 2 rfl) k2 (by decide))
            have hp2 := Kd.R_over' hp (Kd.R_typed (hf.get 2 rfl)) (by decide) hg
            refine hK.out _ _ ⟨k42, hf2.cells4 4 rfl⟩ (fun hHeld => ?_)
            clear hK K
            have hc := S012_3.out (g0, g1, g2, v0, v1, v2) _ ⟨hb2, k42, k22, hp2, hf2⟩
            simp only [putAll, Act.put, List.setIfInBounds_toArray, List.set_cons_zero, List.set_cons_succ] at hc
            refine norm_ (a' := ?_) ?_ ?_
            rotate_left
            · show Act.put _ (some 59) _ = _
              simp only [Act.put, List.setIfInBounds_toArray, List.set_cons_zero, List.set_cons_succ, i64_w, i32_w]
              rfl
            exact hc
          · refine value_ (w1 := ?_) (v := ?_) (by rfl) rfl ?_ ?_
            rotate_left 2
            · go_simp
              constructor
              · rfl
              · rfl
            have hbl := below_alloc (Below.refl W.heap.size W) (Obj.cells #[.int .i64 m3] 3)
            have hf2 : Fam (W.alloc (Obj.cells #[.int .i64 m3] 3)) w.heap.size ([(v0, y0), (v1, y1), (.slice Ax2 x2.length cx2, x2), (.slice Ax3 x3.length cx3, x3), (.slice (some ⟨gl, 0, none⟩) 4 cl_, [m0, m1, m2, m3]), (.slice (some ⟨g0, 0, none⟩) 1 1, [m0]), (.slice (some ⟨g1, 0, none⟩) 1 1, [m1]), (.slice (some ⟨g2, 0, none⟩) 1 1, [m2]), (.slice (some ⟨W.heap.size, 0, none⟩) 1 1, [m3])] : List (Value × List Int)) := hf.made hb.size 8 rfl m3
            refine hK.out _ _ ⟨blk_below k4 hbl, hf2.cells4 4 rfl⟩ (fun hHeld => ?_)
            clear hK K
            have hc := S0123_2.out (g0, g1, g2, W.heap.size, v0, v1) _ ⟨below_step hb hbl, blk_below k4 hbl, blk_below k2 hbl, Kd.R_below hp hbl, hf2⟩
            simp only [putAll, Act.put, List.setIfInBounds_toArray, List.set_cons_zero, List.set_cons_succ] at hc
            refine norm_ (a' := ?_) ?_ ?_
            rotate_left
            · show Act.put _ (some 65) _ = _
              simp only [Act.put, List.setIfInBounds_toArray, List.set_cons_zero, List.set_cons_succ, i64_w, i32_w]
              rfl
            exact hc
        intro H_
        have S012_2 := Aside0.mk H_
        clear H_
        refine join_ 10 #[true, true, true, true, true, true, true, true, true, true, true, true, true, true, true, true, true, true, true, false, false, true, true, true, true, true, true, false, true, false, false, false, false, false, false, false] (fun s : Nat × Nat × Nat × Value × Value => [(44, .slice (some ⟨s.1, 0, none⟩) 1 1), (51, .slice (some ⟨s.2.1, 0, none⟩) 1 1), (65, .slice (some ⟨s.2.2.1, 0, none⟩) 1 1), (45, s.2.2.2.1), (52, s.2.2.2.2), (67, .pointer (some ⟨G4, 0, none⟩))]) (fun s W_ => Below w.heap.size w W_ ∧ W_.heap[G4]? = some (.cells #[.slice Ax0 x0.length cx0, .slice Ax1 x1.length cx1, .slice Ax2 x2.length cx2, .slice Ax3 x3.length cx3] 47 (0, 0)) ∧ W_.heap[G2]? = some (.cells #[.slice none 0 0, .slice none 0 0, .slice none 0 0, .slice none 0 0] 47 (0, 0)) ∧ Kd.string.R 9 W_ w4.heap.size (fun _ => True) (.slice (some ad) ws.length c5) ws ∧ Fam W_ w.heap.size ([(s.2.2.2.1, y0), (s.2.2.2.2, y1), (.slice Ax2 x2.length cx2, x2), (.slice Ax3 x3.length cx3, x3), (.slice (some ⟨gl, 0, none⟩) 4 cl_, [m0, m1, m2, m3]), (.slice (some ⟨s.1, 0, none⟩) 1 1, [m0]), (.slice (some ⟨s.2.1, 0, none⟩) 1 1, [m1]), (.slice none 0 0, []), (.slice (some ⟨s.2.2.1, 0, none⟩) 1 1, [m3])] : List (Value × List Int))) ?_ ?_
        · rintro ⟨g0, g1, g3, v0, v1⟩ W ⟨hb, k4, k2, hp, hf⟩
          refine norm_ (a' := ?_) ?_ ?_
          rotate_left
          · show putAll _ _ = _
            simp only [putAll, Act.put, List.setIfInBounds_toArray, List.set_cons_zero, List.set_cons_succ, i64_w, i32_w]
            rfl
          refine one_ (i := 19) (N := some 58) #[true, true, true, true, true, true, true, true, true, true, true, true, true, true, true, true, true, true, true, true, false, true, true, true, true, true, true, false, true, false, false, false, false, false, false, false] rfl rfl (one_of HT_.out (by kernel_rfl)) (by decide) (fun K hK => ?_)
          · refine value_ (w1 := ?_) (v := ?_) (by rfl) rfl ?_ ?_
            rotate_left 2
            · go_simp
              constructor
              · rfl
              · rfl
            have hbl := below_alloc (Below.refl W.heap.size W) (Obj.cells #[.int .i64 m2] 3)
            have hf2 : Fam (W.alloc (Obj.cells #[.int .i64 m2] 3)) w.heap.size ([(v0, y0), (v1, y1), (.slice Ax2 x2.length cx2, x2), (.slice Ax3 x3.length cx3, x3), (.slice (some ⟨gl, 0, none⟩) 4 cl_, [m0, m1, m2, m3]), (.slice (some ⟨g0, 0, none⟩) 1 1, [m0]), (.slice (some ⟨g1, 0, none⟩) 1 1, [m1]), (.slice (some ⟨W.heap.size, 0, none⟩) 1 1, [m2]), (.slice (some ⟨g3, 0, none⟩) 1 1, [m3])] : List (Value × List Int)) := hf.made hb.size 7 rfl m2
            refine hK.out _ _ ⟨blk_below k4 hbl, hf2.cells4 4 rfl⟩ (fun hHeld => ?_)
            clear hK K
            have hc := S0123_2.out (g0, g1, W.heap.size, g3, v0, v1) _ ⟨below_step hb hbl, blk_below k4 hbl, blk_below k2 hbl, Kd.R_below hp hbl, hf2⟩
            simp only [putAll, Act.put, List.setIfInBounds_toArray, List.set_cons_zero, List.set_cons_succ] at hc
            refine norm_ (a' := ?_) ?_ ?_
            rotate_left
            · show Act.put _ (some 58) _ = _
              simp only [Act.put, List.setIfInBounds_toArray, List.set_cons_zero, List.set_cons_succ, i64_w, i32_w]
              rfl
            exact hc
        intro H_
        have S013_2 := Aside0.mk H_
        clear H_
        refine join_ 10 #[true, true, true, true, true, true, true, true, true, true, true, true, true, false, true, true, true, true, true, true, false, true, true, true, true, true, true, false, true, false, false, false, false, false, false, false] (fun s : Nat × Nat × Nat × Nat × Value => [(44, .slice (some ⟨s.1, 0, none⟩) 1 1), (51, .slice (some ⟨s.2.1, 0, none⟩) 1 1), (58, .slice (some ⟨s.2.2.1, 0, none⟩) 1 1), (65, .slice (some ⟨s.2.2.2.1, 0, none⟩) 1 1), (45, s.2.2.2.2), (67, .pointer (some ⟨G4, 0, none⟩))]) (fun s W_ => Below w.heap.size w W_ ∧ W_.heap[G4]? = some (.cells #[.slice Ax0 x0.length cx0, .slice Ax1 x1.length cx1, .slice Ax2 x2.length cx2, .slice Ax3 x3.length cx3] 47 (0, 0)) ∧ W_.heap[G2]? = some (.cells #[.slice none 0 0, .slice none 0 0, .slice none 0 0, .slice none 0 0] 47 (0, 0)) ∧ Kd.string.R 9 W_ w4.heap.size (fun _ => True) (.slice (some ad) ws.length c5) ws ∧ Fam W_ w.heap.size ([(s.2.2.2.2, y0), (.slice Ax1 x1.length cx1, x1), (.slice Ax2 x2.length cx2, x2), (.slice Ax3 x3.length cx3, x3), (.slice (some ⟨gl, 0, none⟩) 4 cl_, [m0, m1, m2, m3]), (.slice (some ⟨s.1, 0, none⟩) 1 1, [m0]), (.slice (some ⟨s.2.1, 0, none⟩) 1 1, [m1]), (.slice (some ⟨s.2.2.1, 0, none⟩) 1 1, [m2]), (.slice (some ⟨s.2.2.2.1, 0, none⟩) 1 1, [m3])] : List (Value × List Int))) ?_ ?_
        · rintro ⟨g0, g1, g2, g3, v0⟩ W ⟨hb, k4, k2, hp, hf⟩
          refine norm_ (a' := ?_) ?_ ?_
          rotate_left
          · show putAll _ _ = _
            simp only [putAll, Act.put, List.setIfInBounds_toArray, List.set_cons_zero, List.set_cons_succ, i64_w, i32_w]
            rfl
          refine one_ (i := 13) (N := some 52) #[true, true, true, true, true, true, true, true, true, true, true, true, true, true, true, true, true, true, true, true, false, true, true, true, true, true, true, false, true, false, false, false, false, false, false, false] rfl rfl (one_of HT_.out (by kernel_rfl)) (by decide) (fun K hK => ?_)
          · refine Kd.R_append_rows_step (Kd.int .i64) (Rr := (Kd.int .i64).K W) (w0 := w) w.heap.size (by rfl) (.tmp 47) (.tmp 51) 45 3 (.int .i64 0) 8 rfl Tryd.underlying45 info3 rfl (by decide) (by omega) (.slice Ax1 x1.length cx1) x1 [m1] (some ⟨g1, 0, none⟩) 1 1 (fun _ => True) (fun _ => False) (by rfl) (by rfl) (hf.get 1 rfl) (Kd.R_reads' (hf.get 6 rfl)).2.2 (fun _ _ h_ => h_) (fun _ h_ => h_.elim) (fun _ _ => trivial) hb hb.size (by have := HL.out; omega) ?_
            intro v1 W2 ho hb2 hg hat
            rw [← NY1.out] at ho
            have hf2 : Fam W2 w.heap.size ([(v0, y0), (v1, y1), (.slice Ax2 x2.length cx2, x2), (.slice Ax3 x3.length cx3, x3), (.slice (some ⟨gl, 0, none⟩) 4 cl_, [m0, m1, m2, m3]), (.slice (some ⟨g0, 0, none⟩) 1 1, [m0]), (.slice (some ⟨g1, 0, none⟩) 1 1, [m1]), (.slice (some ⟨g2, 0, none⟩) 1 1, [m2]), (.slice (some ⟨g3, 0, none⟩) 1 1, [m3])] : List (Value × List Int)) := hf.replace 1 rfl ho hg hat
            have k42 := blk_grown k4 hg (Kd.R_ne (hf.get 1 rfl) k4 (by decide))
            have k22 := blk_grown k2 hg (Kd.R_ne (hf.get 1 rfl) k2 (by decide))
            have hp2 := Kd.R_over' hp (Kd.R_typed (hf.get 1 rfl)) (by decide) hg
            refine hK.out _ _ ⟨k42, hf2.cells4 4 rfl⟩ (fun hHeld => ?_)
            clear hK K
            have hc := S0123_2.out (g0, g1, g2, g3, v0, v1) _ ⟨hb2, k42, k22, hp2, hf2⟩
            simp only [putAll, Act.put, List.setIfInBounds_toArray, List.set_cons_zero, List.set_cons_succ] at hc
            refine norm_ (a' := ?_) ?_ ?_
            rotate_left
            · show Act.put _ (some 52) _ = _
              simp only [Act.put, List.setIfInBounds_toArray, List.set_cons_zero, List.set_cons_succ, i64_w, i32_w]
              rfl
            exact hc
        intro H_
        have S0123_1 := Aside0.mk H_
        clear H_
        refine join_ 11 #[true, true, true, true, true, true, true, true, true, true, true, true, true, true, true, true, true, true, true, false, false, true, true, true, true, true, false, false, true, false, false, false, false, false, false, false] (fun s : Nat × Nat × Value × Value => [(44, .slice (some ⟨s.1, 0, none⟩) 1 1), (51, .slice (some ⟨s.2.1, 0, none⟩) 1 1), (45, s.2.2.1), (52, s.2.2.2), (67, .pointer (some ⟨G4, 0, none⟩))]) (fun s W_ => Below w.heap.size w W_ ∧ W_.heap[G4]? = some (.cells #[.slice Ax0 x0.length cx0, .slice Ax1 x1.length cx1, .slice Ax2 x2.length cx2, .slice Ax3 x3.length cx3] 47 (0, 0)) ∧ W_.heap[G2]? = some (.cells #[.slice none 0 0, .slice none 0 0, .slice none 0 0, .slice none 0 0] 47 (0, 0)) ∧ Kd.string.R 9 W_ w4.heap.size (fun _ => True) (.slice (some ad) ws.length c5) ws ∧ Fam W_ w.heap.size ([(s.2.2.1, y0), (s.2.2.2, y1), (.slice Ax2 x2.length cx2, x2), (.slice Ax3 x3.length cx3, x3), (.slice (some ⟨gl, 0, none⟩) 4 cl_, [m0, m1, m2, m3]), (.slice (some ⟨s.1, 0, none⟩) 1 1, [m0]), (.slice (some ⟨s.2.1, 0, none⟩) 1 1, [m1]), (.slice none 0 0, []), (.slice none 0 0, [])] : List (Value × List Int))) ?_ ?_
        · rintro ⟨g0, g1, v0, v1⟩ W ⟨hb, k4, k2, hp, hf⟩
          refine norm_ (a' := ?_) ?_ ?_
          rotate_left
          · show putAll _ _ = _
            simp only [putAll, Act.put, List.setIfInBounds_toArray, List.set_cons_zero, List.set_cons_succ, i64_w, i32_w]
            rfl
          refine two_ (i := 19) (j := 26) (Ni := some 58) (Nj := some 65) #[true, true, true, true, true, true, true, true, true, true, true, true, true, true, true, true, true, true, true, true, false, true, true, true, true, true, false, false, true, false, false, false, false, false, false, false] #[true, true, true, true, true, true, true, true, true, true, true, true, true, true, true, true, true, true, true, false, false, true, true, true, true, true, true, false, true, false, false, false, false, false, false, false] rfl rfl rfl rfl (two_of HT_.out (by kernel_rfl)) (by decide) (by decide) (fun K hK => ?_) (fun K hK => ?_)
          · refine value_ (w1 := ?_) (v := ?_) (by rfl) rfl ?_ ?_
            rotate_left 2
            · go_simp
              constructor
              · rfl
              · rfl
            have hbl := below_alloc (Below.refl W.heap.size W) (Obj.cells #[.int .i64 m2] 3)
            have hf2 : Fam (W.alloc (Obj.cells #[.int .i64 m2] 3)) w.heap.size ([(v0, y0), (v1, y1), (.slice Ax2 x2.length cx2, x2), (.slice Ax3 x3.length cx3, x3), (.slice (some ⟨gl, 0, none⟩) 4 cl_, [m0, m1, m2, m3]), (.slice (some ⟨g0, 0, none⟩) 1 1, [m0]), (.slice (some ⟨g1, 0, none⟩) 1 1, [m1]), (.slice (some ⟨W.heap.size, 0, none⟩) 1 1, [m2]), (.slice none 0 0, [])] : List (Value × List Int)) := hf.made hb.size 7 rfl m2
            refine hK.out _ _ ⟨blk_below k4 hbl, hf2.cells4 4 rfl⟩ (fun hHeld => ?_)
            clear hK K
            have hc := S012_2.out (g0, g1, W.heap.size, v0, v1) _ ⟨below_step hb hbl, blk_below k4 hbl, blk_below k2 hbl, Kd.R_below hp hbl, hf2⟩
            simp only [putAll, Act.put, List.setIfInBounds_toArray, List.set_cons_zero, List.set_cons_succ] at hc
            refine norm_ (a' := ?_) ?_ ?_
            rotate_left
            · show Act.put _ (some 58) _ = _
              simp only [Act.put, List.setIfInBounds_toArray, List.set_cons_zero, List.set_cons_succ, i64_w, i32_w]
              rfl
            exact hc
          · refine value_ (w1 := ?_) (v := ?_) (by rfl) rfl ?_ ?_
            rotate_left 2
            · go_simp
              constructor
              · rfl
              · rfl
            have hbl := below_alloc (Below.refl W.heap.size W) (Obj.cells #[.int .i64 m3] 3)
            have hf2 : Fam (W.alloc (Obj.cells #[.int .i64 m3] 3)) w.heap.size ([(v0, y0), (v1, y1), (.slice Ax2 x2.length cx2, x2), (.slice Ax3 x3.length cx3, x3), (.slice (some ⟨gl, 0, none⟩) 4 cl_, [m0, m1, m2, m3]), (.slice (some ⟨g0, 0, none⟩) 1 1, [m0]), (.slice (some ⟨g1, 0, none⟩) 1 1, [m1]), (.slice none 0 0, []), (.slice (some ⟨W.heap.size, 0, none⟩) 1 1, [m3])] : List (Value × List Int)) := hf.made hb.size 8 rfl m3
            refine hK.out _ _ ⟨blk_below k4 hbl, hf2.cells4 4 rfl⟩ (fun hHeld => ?_)
            clear hK K
            have hc := S013_2.out (g0, g1, W.heap.size, v0, v1) _ ⟨below_step hb hbl, blk_below k4 hbl, blk_below k2 hbl, Kd.R_below hp hbl, hf2⟩
            simp only [putAll, Act.put, List.setIfInBounds_toArray, List.set_cons_zero, List.set_cons_succ] at hc
            refine norm_ (a' := ?_) ?_ ?_
            rotate_left
            · show Act.put _ (some 65) _ = _
              simp only [Act.put, List.setIfInBounds_toArray, List.set_cons_zero, List.set_cons_succ, i64_w, i32_w]
              rfl
            exact hc
        intro H_
        have S01_2 := Aside0.mk H_
        clear H_
        refine join_ 11 #[true, true, true, true, true, true, true, true, true, true, true, true, true, false, true, true, true, true, true, true, false, true, true, true, true, true, false, false, true, false, false, false, false, false, false, false] (fun s : Nat × Nat × Nat × Value => [(44, .slice (some ⟨s.1, 0, none⟩) 1 1), (51, .slice (some ⟨s.2.1, 0, none⟩) 1 1), (58, .slice (some ⟨s.2.2.1, 0, none⟩) 1 1), (45, s.2.2.2), (67, .pointer (some ⟨G4, 0, none⟩))]) (fun s W_ => Below w.heap.size w W_ ∧ W_.heap[G4]? = some (.cells #[.slice Ax0 x0.length cx0, .slice Ax1 x1.length cx1, .slice Ax2 x2.length cx2, .slice Ax3 x3.length cx3] 47 (0, 0)) ∧ W_.heap[G2]? = some (.cells #[.slice none 0 0, .slice none 0 0, .slice none 0 0, .slice none 0 0] 47 (0, 0)) ∧ Kd.string.R 9 W_ w4.heap.size (fun _ => True) (.slice (some ad) ws.length c5) ws ∧ Fam W_ w.heap.size ([(s.2.2.2, y0), (.slice Ax1 x1.length cx1, x1), (.slice Ax2 x2.length cx2, x2), (.slice Ax3 x3.length cx3, x3), (.slice (some ⟨gl, 0, none⟩) 4 cl_, [m0, m1, m2, m3]), (.slice (some ⟨s.1, 0, none⟩) 1 1, [m0]), (.slice (some ⟨s.2.1, 0, none⟩) 1 1, [m1]), (.slice (some ⟨s.2.2.1, 0, none⟩) 1 1, [m2]), (.slice none 0 0, [])] : List (Value × List Int))) ?_ ?_
        · rintro ⟨g0, g1, g2, v0⟩ W ⟨hb, k4, k2, hp, hf⟩
          refine norm_ (a' := ?_) ?_ ?_
          rotate_left
          · show putAll _ _ = _
            simp only [putAll, Act.put, List.setIfInBounds_toArray, List.set_cons_zero, List.set_cons_succ, i64_w, i32_w]
            rfl
          refine two_ (i := 13) (j := 26) (Ni := some 52) (Nj := some 65) #[true, true, true, true, true, true, true, true, true, true, true, true, true, true, true, true, true, true, true, true, false, true, true, true, true, true, false, false, true, false, false, false, false, false, false, false] #[true, true, true, true, true, true, true, true, true, true, true, true, true, false, true, true, true, true, true, true, false, true, true, true, true, true, true, false, true, false, false, false, false, false, false, false] rfl rfl rfl rfl (two_of HT_.out (by kernel_rfl)) (by decide) (by decide) (fun K hK => ?_) (fun K hK => ?_)
          · refine Kd.R_append_rows_step (Kd.int .i64) (Rr := (Kd.int .i64).K W) (w0 := w) w.heap.size (by rfl) (.tmp 47) (.tmp 51) 45 3 (.int .i64 0) 8 rfl Tryd.underlying45 info3 rfl (by decide) (by omega) (.slice Ax1 x1.length cx1) x1 [m1] (some ⟨g1, 0, none⟩) 1 1 (fun _ => True) (fun _ => False) (by rfl) (by rfl) (hf.get 1 rfl) (Kd.R_reads' (hf.get 6 rfl)).2.2 (fun _ _ h_ => h_) (fun _ h_ => h_.elim) (fun _ _ => trivial) hb hb.size (by have := HL.out; omega) ?_
            intro v1 W2 ho hb2 hg hat
            rw [← NY1.out] at ho
            have hf2 : Fam W2 w.heap.size ([(v0, y0), (v1, y1), (.slice Ax2 x2.length cx2, x2), (.slice Ax3 x3.length cx3, x3), (.slice (some ⟨gl, 0, none⟩) 4 cl_, [m0, m1, m2, m3]), (.slice (some ⟨g0, 0, none⟩) 1 1, [m0]), (.slice (some ⟨g1, 0, none⟩) 1 1, [m1]), (.slice (some ⟨g2, 0, none⟩) 1 1, [m2]), (.slice none 0 0, [])] : List (Value × List Int)) := hf.replace 1 rfl ho hg hat
            have k42 := blk_grown k4 hg (Kd.R_ne (hf.get 1 rfl) k4 (by decide))
            have k22 := blk_grown k2 hg (Kd.R_ne (hf.get 1 rfl) k2 (by decide))
            have hp2 := Kd.R_over' hp (Kd.R_typed (hf.get 1 rfl)) (by decide) hg
            refine hK.out _ _ ⟨k42, hf2.cells4 4 rfl⟩ (fun hHeld => ?_)
            clear hK K
            have hc := S012_2.out (g0, g1, g2, v0, v1) _ ⟨hb2, k42, k22, hp2, hf2⟩
            simp only [putAll, Act.put, List.setIfInBounds_toArray, List.set_cons_zero, List.set_cons_succ] at hc
            refine norm_ (a' := ?_) ?_ ?_
            rotate_left
            · show Act.put _ (some 52) _ = _
              simp only [Act.put, List.setIfInBounds_toArray, List.set_cons_zero, List.set_cons_succ, i64_w, i32_w]
              rfl
            exact hc
          · refine value_ (w1 := ?_) (v := ?_) (by rfl) rfl ?_ ?_
            rotate_left 2
            · go_simp
              constructor
              · rfl
              · rfl
            have hbl := below_alloc (Below.refl W.heap.size W) (Obj.cells #[.int .i64 m3] 3)
            have hf2 : Fam (W.alloc (Obj.cells #[.int .i64 m3] 3)) w.heap.size ([(v0, y0), (.slice Ax1 x1.length cx1, x1), (.slice Ax2 x2.length cx2, x2), (.slice Ax3 x3.length cx3, x3), (.slice (some ⟨gl, 0, none⟩) 4 cl_, [m0, m1, m2, m3]), (.slice (some ⟨g0, 0, none⟩) 1 1, [m0]), (.slice (some ⟨g1, 0, none⟩) 1 1, [m1]), (.slice (some ⟨g2, 0, none⟩) 1 1, [m2]), (.slice (some ⟨W.heap.size, 0, none⟩) 1 1, [m3])] : List (Value × List Int)) := hf.made hb.size 8 rfl m3
            refine hK.out _ _ ⟨blk_below k4 hbl, hf2.cells4 4 rfl⟩ (fun hHeld => ?_)
            clear hK K
            have hc := S0123_1.out (g0, g1, g2, W.heap.size, v0) _ ⟨below_step hb hbl, blk_below k4 hbl, blk_below k2 hbl, Kd.R_below hp hbl, hf2⟩
            simp only [putAll, Act.put, List.setIfInBounds_toArray, List.set_cons_zero, List.set_cons_succ] at hc
            refine norm_ (a' := ?_) ?_ ?_
            rotate_left
            · show Act.put _ (some 65) _ = _
              simp only [Act.put, List.setIfInBounds_toArray, List.set_cons_zero, List.set_cons_succ, i64_w, i32_w]
              rfl
            exact hc
        intro H_
        have S012_1 := Aside0.mk H_
        clear H_
        refine join_ 11 #[true, true, true, true, true, true, true, true, true, true, true, true, true, false, true, true, true, true, true, false, false, true, true, true, true, true, true, false, true, false, false, false, false, false, false, false] (fun s : Nat × Nat × Nat × Value => [(44, .slice (some ⟨s.1, 0, none⟩) 1 1), (51, .slice (some ⟨s.2.1, 0, none⟩) 1 1), (65, .slice (some ⟨s.2.2.1, 0, none⟩) 1 1), (45, s.2.2.2), (67, .pointer (some ⟨G4, 0, none⟩))]) (fun s W_ => Below w.heap.size w W_ ∧ W_.heap[G4]? = some (.cells #[.slice Ax0 x0.length cx0, .slice Ax1 x1.length cx1, .slice Ax2 x2.length cx2, .slice Ax3 x3.length cx3] 47 (0, 0)) ∧ W_.heap[G2]? = some (.cells #[.slice none 0 0, .slice none 0 0, .slice none 0 0, .slice none 0 0] 47 (0, 0)) ∧ Kd.string.R 9 W_ w4.heap.size (fun _ => True) (.slice (some ad) ws.length c5) ws ∧ Fam W_ w.heap.size ([(s.2.2.2, y0), (.slice Ax1 x1.length cx1, x1), (.slice Ax2 x2.length cx2, x2), (.slice Ax3 x3.length cx3, x3), (.slice (some ⟨gl, 0, none⟩) 4 cl_, [m0, m1, m2, m3]), (.slice (some ⟨s.1, 0, none⟩) 1 1, [m0]), (.slice (some ⟨s.2.1, 0, none⟩) 1 1, [m1]), (.slice none 0 0, []), (.slice (some ⟨s.2.2.1, 0, none⟩) 1 1, [m3])] : List (Value × List Int))) ?_ ?_
        · rintro ⟨g0, g1, g3, v0⟩ W ⟨hb, k4, k2, hp, hf⟩
          refine norm_ (a' := ?_) ?_ ?_
          rotate_left
          · show putAll _ _ = _
            simp only [putAll, Act.put, List.setIfInBounds_toArray, List.set_cons_zero, List.set_cons_succ, i64_w, i32_w]
            rfl
          refine two_ (i := 13) (j := 19) (Ni := some 52) (Nj := some 58) #[true, true, true, true, true, true, true, true, true, true, true, true, true, true, true, true, true, true, true, false, false, true, true, true, true, true, true, false, true, false, false, false, false, false, false, false] #[true, true, true, true, true, true, true, true, true, true, true, true, true, false, true, true, true, true, true, true, false, true, true, true, true, true, true, false, true, false, false, false, false, false, false, false] rfl rfl rfl rfl (two_of HT_.out (by kernel_rfl)) (by decide) (by decide) (fun K hK => ?_) (fun K hK => ?_)
          · refine Kd.R_append_rows_step (Kd.int .i64) (Rr := (Kd.int .i64).K W) (w0 := w) w.heap.size (by rfl) (.tmp 47) (.tmp 51) 45 3 (.int .i64 0) 8 rfl Tryd.underlying45 info3 rfl (by decide) (by omega) (.slice Ax1 x1.length cx1) x1 [m1] (some ⟨g1, 0, none⟩) 1 1 (fun _ => True) (fun _ => False) (by rfl) (by rfl) (hf.get 1 rfl) (Kd.R_reads' (hf.get 6 rfl)).2.2 (fun _ _ h_ => h_) (fun _ h_ => h_.elim) (fun _ _ => trivial) hb hb.size (by have := HL.out; omega) ?_
            intro v1 W2 ho hb2 hg hat
            rw [← NY1.out] at ho
            have hf2 : Fam W2 w.heap.size ([(v0, y0), (v1, y1), (.slice Ax2 x2.length cx2, x2), (.slice Ax3 x3.length cx3, x3), (.slice (some ⟨gl, 0, none⟩) 4 cl_, [m0, m1, m2, m3]), (.slice (some ⟨g0, 0, none⟩) 1 1, [m0]), (.slice (some ⟨g1, 0, none⟩) 1 1, [m1]), (.slice none 0 0, []), (.slice (some ⟨g3, 0, none⟩) 1 1, [m3])] : List (Value × List Int)) := hf.replace 1 rfl ho hg hat
            have k42 := blk_grown k4 hg (Kd.R_ne (hf.get 1 rfl) k4 (by decide))
            have k22 := blk_grown k2 hg (Kd.R_ne (hf.get 1 rfl) k2 (by decide))
            have hp2 := Kd.R_over' hp (Kd.R_typed (hf.get 1 rfl)) (by decide) hg
            refine hK.out _ _ ⟨k42, hf2.cells4 4 rfl⟩ (fun hHeld => ?_)
            clear hK K
            have hc := S013_2.out (g0, g1, g3, v0, v1) _ ⟨hb2, k42, k22, hp2, hf2⟩
            simp only [putAll, Act.put, List.setIfInBounds_toArray, List.set_cons_zero, List.set_cons_succ] at hc
            refine norm_ (a' := ?_) ?_ ?_
            rotate_left
            · show Act.put _ (some 52) _ = _
              simp only [Act.put, List.setIfInBounds_toArray, List.set_cons_zero, List.set_cons_succ, i64_w, i32_w]
              rfl
            exact hc
          · refine value_ (w1 := ?_) (v := ?_) (by rfl) rfl ?_ ?_
            rotate_left 2
            · go_simp
              constructor
              · rfl
              · rfl
            have hbl := below_alloc (Below.refl W.heap.size W) (Obj.cells #[.int .i64 m2] 3)
            have hf2 : Fam (W.alloc (Obj.cells #[.int .i64 m2] 3)) w.heap.size ([(v0, y0), (.slice Ax1 x1.length cx1, x1), (.slice Ax2 x2.length cx2, x2), (.slice Ax3 x3.length cx3, x3), (.slice (some ⟨gl, 0, none⟩) 4 cl_, [m0, m1, m2, m3]), (.slice (some ⟨g0, 0, none⟩) 1 1, [m0]), (.slice (some ⟨g1, 0, none⟩) 1 1, [m1]), (.slice (some ⟨W.heap.size, 0, none⟩) 1 1, [m2]), (.slice (some ⟨g3, 0, none⟩) 1 1, [m3])] : List (Value × List Int)) := hf.made hb.size 7 rfl m2
            refine hK.out _ _ ⟨blk_below k4 hbl, hf2.cells4 4 rfl⟩ (fun hHeld => ?_)
            clear hK K
            have hc := S0123_1.out (g0, g1, W.heap.size, g3, v0) _ ⟨below_step hb hbl, blk_below k4 hbl, blk_below k2 hbl, Kd.R_below hp hbl, hf2⟩
            simp only [putAll, Act.put, List.setIfInBounds_toArray, List.set_cons_zero, List.set_cons_succ] at hc
            refine norm_ (a' := ?_) ?_ ?_
            rotate_left
            · show Act.put _ (some 58) _ = _
              simp only [Act.put, List.setIfInBounds_toArray, List.set_cons_zero, List.set_cons_succ, i64_w, i32_w]
              rfl
            exact hc
        intro H_
        have S013_1 := Aside0.mk H_
        clear H_
        refine join_ 11 #[true, true, true, true, true, true, true, true, true, true, true, true, false, false, true, true, true, true, true, true, false, true, true, true, true, true, true, false, true, false, false, false, false, false, false, false] (fun s : Nat × Nat × Nat × Value => [(44, .slice (some ⟨s.1, 0, none⟩) 1 1), (58, .slice (some ⟨s.2.1, 0, none⟩) 1 1), (65, .slice (some ⟨s.2.2.1, 0, none⟩) 1 1), (45, s.2.2.2), (67, .pointer (some ⟨G4, 0, none⟩))]) (fun s W_ => Below w.heap.size w W_ ∧ W_.heap[G4]? = some (.cells #[.slice Ax0 x0.length cx0, .slice Ax1 x1.length cx1, .slice Ax2 x2.length cx2, .slice Ax3 x3.length cx3] 47 (0, 0)) ∧ W_.heap[G2]? = some (.cells #[.slice none 0 0, .slice none 0 0, .slice none 0 0, .slice none 0 0] 47 (0, 0)) ∧ Kd.string.R 9 W_ w4.heap.size (fun _ => True) (.slice (some ad) ws.length c5) ws ∧ Fam W_ w.heap.size ([(s.2.2.2, y0), (.slice Ax1 x1.length cx1, x1), (.slice Ax2 x2.length cx2, x2), (.slice Ax3 x3.length cx3, x3), (.slice (some ⟨gl, 0, none⟩) 4 cl_, [m0, m1, m2, m3]), (.slice (some ⟨s.1, 0, none⟩) 1 1, [m0]), (.slice none 0 0, []), (.slice (some ⟨s.2.1, 0, none⟩) 1 1, [m2]), (.slice (some ⟨s.2.2.1, 0, none⟩) 1 1, [m3])] : List (Value × List Int))) ?_ ?_
        · rintro ⟨g0, g2, g3, v0⟩ W ⟨hb, k4, k2, hp, hf⟩
          refine norm_ (a' := ?_) ?_ ?_
          rotate_left
          · show putAll _ _ = _
            simp only [putAll, Act.put, List.setIfInBounds_toArray, List.set_cons_zero, List.set_cons_succ, i64_w, i32_w]
            rfl
          refine one_ (i := 12) (N := some 51) #[true, true, true, true, true, true, true, true, true, true, true, true, true, false, true, true, true, true, true, true, false, true, true, true, true, true, true, false, true, false, false, false, false, false, false, false] rfl rfl (one_of HT_.out (by kernel_rfl)) (by decide) (fun K hK => ?_)
          · refine value_ (w1 := ?_) (v := ?_) (by rfl) rfl ?_ ?_
            rotate_left 2
            · go_simp
              constructor
              · rfl
              · rfl
            have hbl := below_alloc (Below.refl W.heap.size W) (Obj.cells #[.int .i64 m1] 3)
            have hf2 : Fam (W.alloc (Obj.cells #[.int .i64 m1] 3)) w.heap.size ([(v0, y0), (.slice Ax1 x1.length cx1, x1), (.slice Ax2 x2.length cx2, x2), (.slice Ax3 x3.length cx3, x3), (.slice (some ⟨gl, 0, none⟩) 4 cl_, [m0, m1, m2, m3]), (.slice (some ⟨g0, 0, none⟩) 1 1, [m0]), (.slice (some ⟨W.heap.size, 0, none⟩) 1 1, [m1]), (.slice (some ⟨g2, 0, none⟩) 1 1, [m2]), (.slice (some ⟨g3, 0, none⟩) 1 1, [m3])] : List (Value × List Int)) := hf.made hb.size 6 rfl m1
            refine hK.out _ _ ⟨blk_below k4 hbl, hf2.cells4 4 rfl⟩ (fun hHeld => ?_)
            clear hK K
            have hc := S0123_1.out (g0, W.heap.size, g2, g3, v0) _ ⟨below_step hb hbl, blk_below k4 hbl, blk_below k2 hbl, Kd.R_below hp hbl, hf2⟩
            simp only [putAll, Act.put, List.setIfInBounds_toArray, List.set_cons_zero, List.set_cons_succ] at hc
            refine norm_ (a' := ?_) ?_ ?_
            rotate_left
            · show Act.put _ (some 51) _ = _
              simp only [Act.put, List.setIfInBounds_toArray, List.set_cons_zero, List.set_cons_succ, i64_w, i32_w]
              rfl
            exact hc
        intro H_
        have S023_1 := Aside0.mk H_
        clear H_
        refine join_ 12 #[true, true, true, true, true, true, false, true, true, true, true, true, true, false, true, true, true, true, true, true, false, true, true, true, true, true, true, false, false, false, false, false, false, false, false, false] (fun s : Nat × Nat × Nat × Nat => [(44, .slice (some ⟨s.1, 0, none⟩) 1 1), (51, .slice (some ⟨s.2.1, 0, none⟩) 1 1), (58, .slice (some ⟨s.2.2.1, 0, none⟩) 1 1), (65, .slice (some ⟨s.2.2.2, 0, none⟩) 1 1)]) (fun s W_ => Below w.heap.size w W_ ∧ W_.heap[G4]? = some (.cells #[.slice Ax0 x0.length cx0, .slice Ax1 x1.length cx1, .slice Ax2 x2.length cx2, .slice Ax3 x3.length cx3] 47 (0, 0)) ∧ W_.heap[G2]? = some (.cells #[.slice none 0 0, .slice none 0 0, .slice none 0 0, .slice none 0 0] 47 (0, 0)) ∧ Kd.string.R 9 W_ w4.heap.size (fun _ => True) (.slice (some ad) ws.length c5) ws ∧ Fam W_ w.heap.size ([(.slice Ax0 x0.length cx0, x0), (.slice Ax1 x1.length cx1, x1), (.slice Ax2 x2.length cx2, x2), (.slice Ax3 x3.length cx3, x3), (.slice (some ⟨gl, 0, none⟩) 4 cl_, [m0, m1, m2, m3]), (.slice (some ⟨s.1, 0, none⟩) 1 1, [m0]), (.slice (some ⟨s.2.1, 0, none⟩) 1 1, [m1]), (.slice (some ⟨s.2.2.1, 0, none⟩) 1 1, [m2]), (.slice (some ⟨s.2.2.2, 0, none⟩) 1 1, [m3])] : List (Value × List Int))) ?_ ?_
        · rintro ⟨g0, g1, g2, g3⟩ W ⟨hb, k4, k2, hp, hf⟩
          refine norm_ (a' := ?_) ?_ ?_
          rotate_left
          · show putAll _ _ = _
            simp only [putAll, Act.put, List.setIfInBounds_toArray, List.set_cons_zero, List.set_cons_succ, i64_w, i32_w]
            rfl
          refine one_ (i := 6) (N := some 45) #[true, true, true, true, true, true, true, true, true, true, true, true, true, false, true, true, true, true, true, true, false, true, true, true, true, true, true, false, false, false, false, false, false, false, false, false] rfl rfl (one_of HT_.out (by kernel_rfl)) (by decide) (fun K hK => ?_)
          · refine Kd.R_append_rows_step (Kd.int .i64) (Rr := (Kd.int .i64).K W) (w0 := w) w.heap.size (by rfl) (.tmp 40) (.tmp 44) 45 3 (.int .i64 0) 8 rfl Tryd.underlying45 info3 rfl (by decide) (by omega) (.slice Ax0 x0.length cx0) x0 [m0] (some ⟨g0, 0, none⟩) 1 1 (fun _ => True) (fun _ => False) (by rfl) (by rfl) (hf.get 0 rfl) (Kd.R_reads' (hf.get 5 rfl)).2.2 (fun _ _ h_ => h_) (fun _ h_ => h_.elim) (fun _ _ => trivial) hb hb.size (by have := HL.out; omega) ?_
            intro v0 W2 ho hb2 hg hat
            rw [← NY0.out] at ho
            have hf2 : Fam W2 w.heap.size ([(v0, y0), (.slice Ax1 x1.length cx1, x1), (.slice Ax2 x2.length cx2, x2), (.slice Ax3 x3.length cx3, x3), (.slice (some ⟨gl, 0, none⟩) 4 cl_, [m0, m1, m2, m3]), (.slice (some ⟨g0, 0, none⟩) 1 1, [m0]), (.slice (some ⟨g1, 0, none⟩) 1 1, [m1]), (.slice (some ⟨g2, 0, none⟩) 1 1, [m2]), (.slice (some ⟨g3, 0, none⟩) 1 1, [m3])] : List (Value × List Int)) := hf.replace 0 rfl ho hg hat
            have k42 := blk_grown k4 hg (Kd.R_ne (hf.get 0 rfl) k4 (by decide))
            have k22 := blk_grown k2 hg (Kd.R_ne (hf.get 0 rfl) k2 (by decide))
            have hp2 := Kd.R_over' hp (Kd.R_typed (hf.get 0 rfl)) (by decide) hg
            refine hK.out _ _ ⟨k42, hf2.cells4 4 rfl⟩ (fun hHeld => ?_)
            clear hK K
            have hc := S0123_1.out (g0, g1, g2, g3, v0) _ ⟨hb2, k42, k22, hp2, hf2⟩
            simp only [putAll, Act.put, List.setIfInBounds_toArray, List.set_cons_zero, List.set_cons_succ] at hc
            refine norm_ (a' := ?_) ?_ ?_
            rotate_left
            · show Act.put _ (some 45) _ = _
              simp only [Act.put, List.setIfInBounds_toArray, List.set_cons_zero, List.set_cons_succ, i64_w, i32_w]
              rfl
            refine pure_ (i := 28) (N := some 67) (v := ?_) (a' := ?_) #[true, true, true, true, true, true, true, true, true, true, true, true, true, false, true, true, true, true, true, true, false, true, true, true, true, true, true, false, true, false, false, false, false, false, false, false] rfl rfl (any_of HT_.out (by kernel_rfl)) (fun _ _ _ h => h) (Or.inl ⟨by rfl, ?_⟩) ?_ ?_
            rotate_left
            · intro w'
              go_simp
              with_reducible rfl
            rotate_left
            · simp only [Act.put, List.setIfInBounds_toArray, List.set_cons_zero, List.set_cons_succ, i64_w, i32_w]
              rfl
            exact hc
        intro H_
        have S0123_0 := Aside0.mk H_
        clear H_
        refine join_ 12 #[true, true, true, true, true, true, true, true, true, true, true, true, true, false, true, true, true, true, true, false, false, true, true, true, true, true, false, false, true, false, false, false, false, false, false, false] (fun s : Nat × Nat × Value => [(44, .slice (some ⟨s.1, 0, none⟩) 1 1), (51, .slice (some ⟨s.2.1, 0, none⟩) 1 1), (45, s.2.2), (67, .pointer (some ⟨G4, 0, none⟩))]) (fun s W_ => Below w.heap.size w W_ ∧ W_.heap[G4]? = some (.cells #[.slice Ax0 x0.length cx0, .slice Ax1 x1.length cx1, .slice Ax2 x2.length cx2, .slice Ax3 x3.length cx3] 47 (0, 0)) ∧ W_.heap[G2]? = some (.cells #[.slice none 0 0, .slice none 0 0, .slice none 0 0, .slice none 0 0] 47 (0, 0)) ∧ Kd.string.R 9 W_ w4.heap.size (fun _ => True) (.slice (some ad) ws.length c5) ws ∧ Fam W_ w.heap.size ([(s.2.2, y0), (.slice Ax1 x1.length cx1, x1), (.slice Ax2 x2.length cx2, x2), (.slice Ax3 x3.length cx3, x3), (.slice (some ⟨gl, 0, none⟩) 4 cl_, [m0, m1, m2, m3]), (.slice (some ⟨s.1, 0, none⟩) 1 1, [m0]), (.slice (some ⟨s.2.1, 0, none⟩) 1 1, [m1]), (.slice none 0 0, []), (.slice none 0 0, [])] : List (Value × List Int))) ?_ ?_
        · rintro ⟨g0, g1, v0⟩ W ⟨hb, k4, k2, hp, hf⟩
          refine norm_ (a' := ?_) ?_ ?_
          rotate_left
          · show putAll _ _ = _
            simp only [putAll, Act.put, List.setIfInBounds_toArray, List.set_cons_zero, List.set_cons_succ, i64_w, i32_w]
            rfl
          refine three_ (i := 13) (j := 19) (k := 26) (Ni := some 52) (Nj := some 58) (Nk := some 65) #[true, true, true, true, true, true, true, true, true, true, true, true, true, true, true, true, true, true, true, false, false, true, true, true, true, true, false, false, true, false, false, false, false, false, false, false] #[true, true, true, true, true, true, true, true, true, true, true, true, true, false, true, true, true, true, true, true, false, true, true, true, true, true, false, false, true, false, false, false, false, false, false, false] #[true, true, true, true, true, true, true, true, true, true, true, true, true, false, true, true, true, true, true, false, false, true, true, true, true, true, true, false, true, false, false, false, false, false, false, false] rfl rfl rfl rfl rfl rfl (three_of HT_.out (by kernel_rfl)) (by decide) (by decide) (by decide) (fun K hK => ?_) (fun K hK => ?_) (fun K hK => ?_)
          · refine Kd.R_append_rows_step (Kd.int .i64) (Rr := (Kd.int .i64).K W) (w0 := w) w.heap.size (by rfl) (.tmp 47) (.tmp 51) 45 3 (.int .i64 0) 8 rfl Tryd.underlying45 info3 rfl (by decide) (by omega) (.slice Ax1 x1.length cx1) x1 [m1] (some ⟨g1, 0, none⟩) 1 1 (fun _ => True) (fun _ => False) (by rfl) (by rfl) (hf.get 1 rfl) (Kd.R_reads' (hf.get 6 rfl)).2.2 (fun _ _ h_ => h_) (fun _ h_ => h_.elim) (fun _ _ => trivial) hb hb.size (by have := HL.out; omega) ?_
            intro v1 W2 ho hb2 hg hat
            rw [← NY1.out] at ho
            have hf2 : Fam W2 w.heap.size ([(v0, y0), (v1, y1), (.slice Ax2 x2.length cx2, x2), (.slice Ax3 x3.length cx3, x3), (.slice (some ⟨gl, 0, none⟩) 4 cl_, [m0, m1, m2, m3]), (.slice (some ⟨g0, 0, none⟩) 1 1, [m0]), (.slice (some ⟨g1, 0, none⟩) 1 1, [m1]), (.slice none 0 0, []), (.slice none 0 0, [])] : List (Value × List Int)) := hf.replace 1 rfl ho hg hat
            have k42 := blk_grown k4 hg (Kd.R_ne (hf.get 1 rfl) k4 (by decide))
            have k22 := blk_grown k2 hg (Kd.R_ne (hf.get 1 rfl) k2 (by decide))
            have hp2 := Kd.R_over' hp (Kd.R_typed (hf.get 1 rfl)) (by decide) hg
            refine hK.out _ _ ⟨k42, hf2.cells4 4 rfl⟩ (fun hHeld => ?_)
            clear hK K
            have hc := S01_2.out (g0, g1, v0, v1) _ ⟨hb2, k42, k22, hp2, hf2⟩
            simp only [putAll, Act.put, List.setIfInBounds_toArray, List.set_cons_zero, List.set_cons_succ] at hc
            refine norm_ (a' := ?_) ?_ ?_
            rotate_left
            · show Act.put _ (some 52) _ = _
              simp only [Act.put, List.setIfInBounds_toArray, List.set_cons_zero, List.set_cons_succ, i64_w, i32_w]
              rfl
            exact hc
          · refine value_ (w1 := ?_) (v := ?_) (by rfl) rfl ?_ ?_
            rotate_left 2
            · go_simp
              constructor
              · rfl
              · rfl
            have hbl := below_alloc (Below.refl W.heap.size W) (Obj.cells #[.int .i64 m2] 3)
            have hf2 : Fam (W.alloc (Obj.cells #[.int .i64 m2] 3)) w.heap.size ([(v0, y0), (.slice Ax1 x1.length cx1, x1), (.slice Ax2 x2.length cx2, x2), (.slice Ax3 x3.length cx3, x3), (.slice (some ⟨gl, 0, none⟩) 4 cl_, [m0, m1, m2, m3]), (.slice (some ⟨g0, 0, none⟩) 1 1, [m0]), (.slice (some ⟨g1, 0, none⟩) 1 1, [m1]), (.slice (some ⟨W.heap.size, 0, none⟩) 1 1, [m2]), (.slice none 0 0, [])] : List (Value × List Int)) := hf.made hb.size 7 rfl m2
            refine hK.out _ _ ⟨blk_below k4 hbl, hf2.cells4 4 rfl⟩ (fun hHeld => ?_)
            clear hK K
            have hc := S012_1.out (g0, g1, W.heap.size, v0) _ ⟨below_step hb hbl, blk_below k4 hbl, blk_below k2 hbl, Kd.R_below hp hbl, hf2⟩
            simp only [putAll, Act.put, List.setIfInBounds_toArray, List.set_cons_zero, List.set_cons_succ] at hc
            refine norm_ (a' := ?_) ?_ ?_
            rotate_left
            · show Act.put _ (some 58) _ = _
              simp only [Act.put, List.setIfInBounds_toArray, List.set_cons_zero, List.set_cons_succ, i64_w, i32_w]
              rfl
            exact hc
          · refine value_ (w1 := ?_) (v := ?_) (by rfl) rfl ?_ ?_
            rotate_left 2
            · go_simp
              constructor
              · rfl
              · rfl
            have hbl := below_alloc (Below.refl W.heap.size W) (Obj.cells #[.int .i64 m3] 3)
            have hf2 : Fam (W.alloc (Obj.cells #[.int .i64 m3] 3)) w.heap.size ([(v0, y0), (.slice Ax1 x1.length cx1, x1), (.slice Ax2 x2.length cx2, x2), (.slice Ax3 x3.length cx3, x3), (.slice (some ⟨gl, 0, none⟩) 4 cl_, [m0, m1, m2, m3]), (.slice (some ⟨g0, 0, none⟩) 1 1, [m0]), (.slice (some ⟨g1, 0, none⟩) 1 1, [m1]), (.slice none 0 0, []), (.slice (some ⟨W.heap.size, 0, none⟩) 1 1, [m3])] : List (Value × List Int)) := hf.made hb.size 8 rfl m3
            refine hK.out _ _ ⟨blk_below k4 hbl, hf2.cells4 4 rfl⟩ (fun hHeld => ?_)
            clear hK K
            have hc := S013_1.out (g0, g1, W.heap.size, v0) _ ⟨below_step hb hbl, blk_below k4 hbl, blk_below k2 hbl, Kd.R_below hp hbl, hf2⟩
            simp only [putAll, Act.put, List.setIfInBounds_toArray, List.set_cons_zero, List.set_cons_succ] at hc
            refine norm_ (a' := ?_) ?_ ?_
            rotate_left
            · show Act.put _ (some 65) _ = _
              simp only [Act.put, List.setIfInBounds_toArray, List.set_cons_zero, List.set_cons_succ, i64_w, i32_w]
              rfl
            exact hc
        intro H_
        have S01_1 := Aside0.mk H_
        clear H_
        refine join_ 12 #[true, true, true, true, true, true, true, true, true, true, true, true, false, false, true, true, true, true, true, true, false, true, true, true, true, true, false, false, true, false, false, false, false, false, false, false] (fun s : Nat × Nat × Value => [(44, .slice (some ⟨s.1, 0, none⟩) 1 1), (58, .slice (some ⟨s.2.1, 0, none⟩) 1 1), (45, s.2.2), (67, .pointer (some ⟨G4, 0, none⟩))]) (fun s W_ => Below w.heap.size w W_ ∧ W_.heap[G4]? = some (.cells #[.slice Ax0 x0.length cx0, .slice Ax1 x1.length cx1, .slice Ax2 x2.length cx2, .slice Ax3 x3.length cx3] 47 (0, 0)) ∧ W_.heap[G2]? = some (.cells #[.slice none 0 0, .slice none 0 0, .slice none 0 0, .slice none 0 0] 47 (0, 0)) ∧ Kd.string.R 9 W_ w4.heap.size (fun _ => True) (.slice (some ad) ws.length c5) ws ∧ Fam W_ w.heap.size ([(s.2.2, y0), (.slice Ax1 x1.length cx1, x1), (.slice Ax2 x2.length cx2, x2), (.slice Ax3 x3.length cx3, x3), (.slice (some ⟨gl, 0, none⟩) 4 cl_, [m0, m1, m2, m3]), (.slice (some ⟨s.1, 0, none⟩) 1 1, [m0]), (.slice none 0 0, []), (.slice (some ⟨s.2.1, 0, none⟩) 1 1, [m2]), (.slice none 0 0, [])] : List (Value × List Int))) ?_ ?_
        · rintro ⟨g0, g2, v0⟩ W ⟨hb, k4, k2, hp, hf⟩
          refine norm_ (a' := ?_) ?_ ?_
          rotate_left
          · show putAll _ _ = _
            simp only [putAll, Act.put, List.setIfInBounds_toArray, List.set_cons_zero, List.set_cons_succ, i64_w, i32_w]
            rfl
          refine two_ (i := 12) (j := 26) (Ni := some 51) (Nj := some 65) #[true, true, true, true, true, true, true, true, true, true, true, true, true, false, true, true, true, true, true, true, false, true, true, true, true, true, false, false, true, false, false, false, false, false, false, false] #[true, true, true, true, true, true, true, true, true, true, true, true, false, false, true, true, true, true, true, true, false, true, true, true, true, true, true, false, true, false, false, false, false, false, false, false] rfl rfl rfl rfl (two_of HT_.out (by kernel_rfl)) (by decide) (by decide) (fun K hK => ?_) (fun K hK => ?_)
          · refine value_ (w1 := ?_) (v := ?_) (by rfl) rfl ?_ ?_
            rotate_left 2
            · go_simp
              constructor
              · rfl
              · rfl
            have hbl := below_alloc (Below.refl W.heap.size W) (Obj.cells #[.int .i64 m1] 3)
            have hf2 : Fam (W.alloc (Obj.cells #[.int .i64 m1] 3)) w.heap.size ([(v0, y0), (.slice Ax1 x1.length cx1, x1), (.slice Ax2 x2.length cx2, x2), (.slice Ax3 x3.length cx3, x3), (.slice (some ⟨gl, 0, none⟩) 4 cl_, [m0, m1, m2, m3]), (.slice (some ⟨g0, 0, none⟩) 1 1, [m0]), (.slice (some ⟨W.heap.size, 0, none⟩) 1 1, [m1]), (.slice (some ⟨g2, 0, none⟩) 1 1, [m2]), (.slice none 0 0, [])] : List (Value × List Int)) := hf.made hb.size 6 rfl m1
            refine hK.out _ _ ⟨blk_below k4 hbl, hf2.cells4 4 rfl⟩ (fun hHeld => ?_)
            clear hK K
            have hc := S012_1.out (g0, W.heap.size, g2, v0) _ ⟨below_step hb hbl, blk_below k4 hbl, blk_below k2 hbl, Kd.R_below hp hbl, hf2⟩
            simp only [putAll, Act.put, List.setIfInBounds_toArray, List.set_cons_zero, List.set_cons_succ] at hc
            refine norm_ (a' := ?_) ?_ ?_
            rotate_left
            · show Act.put _ (some 51) _ = _
              simp only [Act.put, List.setIfInBounds_toArray, List.set_cons_zero, List.set_cons_succ, i64_w, i32_w]
              rfl
            exact hc
          · refine value_ (w1 := ?_) (v := ?_) (by rfl) rfl ?_ ?_
            rotate_left 2
            · go_simp
              constructor
              · rfl
              · rfl
            have hbl := below_alloc (Below.refl W.heap.size W) (Obj.cells #[.int .i64 m3] 3)
            have hf2 : Fam (W.alloc (Obj.cells #[.int .i64 m3] 3)) w.heap.size ([(v0, y0), (.slice Ax1 x1.length cx1, x1), (.slice Ax2 x2.length cx2, x2), (.slice Ax3 x3.length cx3, x3), (.slice (some ⟨gl, 0, none⟩) 4 cl_, [m0, m1, m2, m3]), (.slice (some ⟨g0, 0, none⟩) 1 1, [m0]), (.slice none 0 0, []), (.slice (some ⟨g2, 0, none⟩) 1 1, [m2]), (.slice (some ⟨W.heap.size, 0, none⟩) 1 1, [m3])] : List (Value × List Int)) := hf.made hb.size 8 rfl m3
            refine hK.out _ _ ⟨blk_below k4 hbl, hf2.cells4 4 rfl⟩ (fun hHeld => ?_)
            clear hK K
            have hc := S023_1.out (g0, g2, W.heap.size, v0) _ ⟨below_step hb hbl, blk_below k4 hbl, blk_below k2 hbl, Kd.R_below hp hbl, hf2⟩
            simp only [putAll, Act.put, List.setIfInBounds_toArray, List.set_cons_zero, List.set_cons_succ] at hc
            refine norm_ (a' := ?_) ?_ ?_
            rotate_left
            · show Act.put _ (some 65) _ = _
              simp only [Act.put, List.setIfInBounds_toArray, List.set_cons_zero, List.set_cons_succ, i64_w, i32_w]
              rfl
            exact hc
        intro H_
        have S02_1 := Aside0.mk H_
        clear H_
        refine join_ 12 #[true, true, true, true, true, true, true, true, true, true, true, true, false, false, true, true, true, true, true, false, false, true, true, true, true, true, true, false, true, false, false, false, false, false, false, false] (fun s : Nat × Nat × Value => [(44, .slice (some ⟨s.1, 0, none⟩) 1 1), (65, .slice (some ⟨s.2.1, 0, none⟩) 1 1), (45, s.2.2), (67, .pointer (some ⟨G4, 0, none⟩))]) (fun s W_ => Below w.heap.size w W_ ∧ W_.heap[G4]? = some (.cells #[.slice Ax0 x0.length cx0, .slice Ax1 x1.length cx1, .slice Ax2 x2.length cx2, .slice Ax3 x3.length cx3] 47 (0, 0)) ∧ W_.heap[G2]? = some (.cells #[.slice none 0 0, .slice none 0 0, .slice none 0 0, .slice none 0 0] 47 (0, 0)) ∧ Kd.string.R 9 W_ w4.heap.size (fun _ => True) (.slice (some ad) ws.length c5) ws ∧ Fam W_ w.heap.size ([(s.2.2, y0), (.slice Ax1 x1.length cx1, x1), (.slice Ax2 x2.length cx2, x2), (.slice Ax3 x3.length cx3, x3), (.slice (some ⟨gl, 0, none⟩) 4 cl_, [m0, m1, m2, m3]), (.slice (some ⟨s.1, 0, none⟩) 1 1, [m0]), (.slice none 0 0, []), (.slice none 0 0, []), (.slice (some ⟨s.2.1, 0, none⟩) 1 1, [m3])] : List (Value × List Int))) ?_ ?_
        · rintro ⟨g0, g3, v0⟩ W ⟨hb, k4, k2, hp, hf⟩
          refine norm_ (a' := ?_) ?_ ?_
          rotate_left
          · show putAll _ _ = _
            simp only [putAll, Act.put, List.setIfInBounds_toArray, List.set_cons_zero, List.set_cons_succ, i64_w, i32_w]
            rfl
          refine two_ (i := 12) (j := 19) (Ni := some 51) (Nj := some 58) #[true, true, true, true, true, true, true, true, true, true, true, true, true, false, true, true, true, true, true, false, false, true, true, true, true, true, true, false, true, false, false, false, false, false, false, false] #[true, true, true, true, true, true, true, true, true, true, true, true, false, false, true, true, true, true, true, true, false, true, true, true, true, true, true, false, true, false, false, false, false, false, false, false] rfl rfl rfl rfl (two_of HT_.out (by kernel_rfl)) (by decide) (by decide) (fun K hK => ?_) (fun K hK => ?_)
          · refine value_ (w1 := ?_) (v := ?_) (by rfl) rfl ?_ ?_
            rotate_left 2
            · go_simp
              constructor
              · rfl
              · rfl
            have hbl := below_alloc (Below.refl W.heap.size W) (Obj.cells #[.int .i64 m1] 3)
            have hf2 : Fam (W.alloc (Obj.cells #[.int .i64 m1] 3)) w.heap.size ([(v0, y0), (.slice Ax1 x1.length cx1, x1), (.slice Ax2 x2.length cx2, x2), (.slice Ax3 x3.length cx3, x3), (.slice (some ⟨gl, 0, none⟩) 4 cl_, [m0, m1, m2, m3]), (.slice (some ⟨g0, 0, none⟩) 1 1, [m0]), (.slice (some ⟨W.heap.size, 0, none⟩) 1 1, [m1]), (.slice none 0 0, []), (.slice (some ⟨g3, 0, none⟩) 1 1, [m3])] : List (Value × List Int)) := hf.made hb.size 6 rfl m1
            refine hK.out _ _ ⟨blk_below k4 hbl, hf2.cells4 4 rfl⟩ (fun hHeld => ?_)
            clear hK K
            have hc := S013_1.out (g0, W.heap.size, g3, v0) _ ⟨below_step hb hbl, blk_below k4 hbl, blk_below k2 hbl, Kd.R_below hp hbl, hf2⟩
            simp only [putAll, Act.put, List.setIfInBounds_toArray, List.set_cons_zero, List.set_cons_succ] at hc
            refine norm_ (a' := ?_) ?_ ?_
            rotate_left
            · show Act.put _ (some 51) _ = _
              simp only [Act.put, List.setIfInBounds_toArray, List.set_cons_zero, List.set_cons_succ, i64_w, i32_w]
              rfl
            exact hc
          · refine value_ (w1 := ?_) (v := ?_) (by rfl) rfl ?_ ?_
            rotate_left 2
            · go_simp
              constructor
              · rfl
              · rfl
            have hbl := below_alloc (Below.refl W.heap.size W) (Obj.cells #[.int .i64 m2] 3)
            have hf2 : Fam (W.alloc (Obj.cells #[.int .i64 m2] 3)) w.heap.size ([(v0, y0), (.slice Ax1 x1.length cx1, x1), (.slice Ax2 x2.length cx2, x2), (.slice Ax3 x3.length cx3, x3), (.slice (some ⟨gl, 0, none⟩) 4 cl_, [m0, m1, m2, m3]), (.slice (some ⟨g0, 0, none⟩) 1 1, [m0]), (.slice none 0 0, []), (.slice (some ⟨W.heap.size, 0, none⟩) 1 1, [m2]), (.slice (some ⟨g3, 0, none⟩) 1 1, [m3])] : List (Value × List Int)) := hf.made hb.size 7 rfl m2
            refine hK.out _ _ ⟨blk_below k4 hbl, hf2.cells4 4 rfl⟩ (fun hHeld => ?_)
            clear hK K
            have hc := S023_1.out (g0, W.heap.size, g3, v0) _ ⟨below_step hb hbl, blk_below k4 hbl, blk_below k2 hbl, Kd.R_below hp hbl, hf2⟩
            simp only [putAll, Act.put, List.setIfInBounds_toArray, List.set_cons_zero, List.set_cons_succ] at hc
            refine norm_ (a' := ?_) ?_ ?_
            rotate_left
            · show Act.put _ (some 58) _ = _
              simp only [Act.put, List.setIfInBounds_toArray, List.set_cons_zero, List.set_cons_succ, i64_w, i32_w]
              rfl
            exact hc
        intro H_
        have S03_1 := Aside0.mk H_
        clear H_
        refine join_ 13 #[true, true, true, true, true, true, false, true, true, true, true, true, true, false, true, true, true, true, true, true, false, true, true, true, true, true, false, false, false, false, false, false, false, false, false, false] (fun s : Nat × Nat × Nat => [(44, .slice (some ⟨s.1, 0, none⟩) 1 1), (51, .slice (some ⟨s.2.1, 0, none⟩) 1 1), (58, .slice (some ⟨s.2.2, 0, none⟩) 1 1)]) (fun s W_ => Below w.heap.size w W_ ∧ W_.heap[G4]? = some (.cells #[.slice Ax0 x0.length cx0, .slice Ax1 x1.length cx1, .slice Ax2 x2.length cx2, .slice Ax3 x3.length cx3] 47 (0, 0)) ∧ W_.heap[G2]? = some (.cells #[.slice none 0 0, .slice none 0 0, .slice none 0 0, .slice none 0 0] 47 (0, 0)) ∧ Kd.string.R 9 W_ w4.heap.size (fun _ => True) (.slice (some ad) ws.length c5) ws ∧ Fam W_ w.heap.size ([(.slice Ax0 x0.length cx0, x0), (.slice Ax1 x1.length cx1, x1), (.slice Ax2 x2.length cx2, x2), (.slice Ax3 x3.length cx3, x3), (.slice (some ⟨gl, 0, none⟩) 4 cl_, [m0, m1, m2, m3]), (.slice (some ⟨s.1, 0, none⟩) 1 1, [m0]), (.slice (some ⟨s.2.1, 0, none⟩) 1 1, [m1]), (.slice (some ⟨s.2.2, 0, none⟩) 1 1, [m2]), (.slice none 0 0, [])] : List (Value × List Int))) ?_ ?_
        · rintro ⟨g0, g1, g2⟩ W ⟨hb, k4, k2, hp, hf⟩
          refine norm_ (a' := ?_) ?_ ?_
          rotate_left
          · show putAll _ _ = _
            simp only [putAll, Act.put, List.setIfInBounds_toArray, List.set_cons_zero, List.set_cons_succ, i64_w, i32_w]
            rfl
          refine two_ (i := 6) (j := 26) (Ni := some 45) (Nj := some 65) #[true, true, true, true, true, true, true, true, true, true, true, true, true, false, true, true, true, true, true, true, false, true, true, true, true, true, false, false, false, false, false, false, false, false, false, false] #[true, true, true, true, true, true, false, true, true, true, true, true, true, false, true, true, true, true, true, true, false, true, true, true, true, true, true, false, false, false, false, false, false, false, false, false] rfl rfl rfl rfl (two_of HT_.out (by kernel_rfl)) (by decide) (by decide) (fun K hK => ?_) (fun K hK => ?_)
          · refine Kd.R_append_rows_step (Kd.int .i64) (Rr := (Kd.int .i64).K W) (w0 := w) w.heap.size (by rfl) (.tmp 40) (.tmp 44) 45 3 (.int .i64 0) 8 rfl Tryd.underlying45 info3 rfl (by decide) (by omega) (.slice Ax0 x0.length cx0) x0 [m0] (some ⟨g0, 0, none⟩) 1 1 (fun _ => True) (fun _ => False) (by rfl) (by rfl) (hf.get 0 rfl) (Kd.R_reads' (hf.get 5 rfl)).2.2 (fun _ _ h_ => h_) (fun _ h_ => h_.elim) (fun _ _ => trivial) hb hb.size (by have := HL.out; omega) ?_
            intro v0 W2 ho hb2 hg hat
            rw [← NY0.out] at ho
            have hf2 : Fam W2 w.heap.size ([(v0, y0), (.slice Ax1 x1.length cx1, x1), (.slice Ax2 x2.length cx2, x2), (.slice Ax3 x3.length cx3, x3), (.slice (some ⟨gl, 0, none⟩) 4 cl_, [m0, m1, m2, m3]), (.slice (some ⟨g0, 0, none⟩) 1 1, [m0]), (.slice (some ⟨g1, 0, none⟩) 1 1, [m1]), (.slice (some ⟨g2, 0, none⟩) 1 1, [m2]), (.slice none 0 0, [])] : List (Value × List Int)) := hf.replace 0 rfl ho hg hat
            have k42 := blk_grown k4 hg (Kd.R_ne (hf.get 0 rfl) k4 (by decide))
            have k22 := blk_grown k2 hg (Kd.R_ne (hf.get 0 rfl) k2 (by decide))
            have hp2 := Kd.R_over' hp (Kd.R_typed (hf.get 0 rfl)) (by decide) hg
            refine hK.out _ _ ⟨k42, hf2.cells4 4 rfl⟩ (fun hHeld => ?_)
            clear hK K
            have hc := S012_1.out (g0, g1, g2, v0) _ ⟨hb2, k42, k22, hp2, hf2⟩
            simp only [putAll, Act.put, List.setIfInBounds_toArray, List.set_cons_zero, List.set_cons_succ] at hc
            refine norm_ (a' := ?_) ?_ ?_
            rotate_left
            · show Act.put _ (some 45) _ = _
              simp only [Act.put, List.setIfInBounds_toArray, List.set_cons_zero, List.set_cons_succ, i64_w, i32_w]
              rfl
            refine pure_ (i := 28) (N := some 67) (v := ?_) (a' := ?_) #[true, true, true, true, true, true, true, true, true, true, true, true, true, false, true, true, true, true, true, true, false, true, true, true, true, true, false, false, true, false, false, false, false, false, false, false] rfl rfl (any_of HT_.out (by kernel_rfl)) (fun _ _ _ h => h) (Or.inl ⟨by rfl, ?_⟩) ?_ ?_
            rotate_left
            · intro w'
              go_simp
              with_reducible rfl
            rotate_left
            · simp only [Act.put, List.setIfInBounds_toArray, List.set_cons_zero, List.set_cons_succ, i64_w, i32_w]
              rfl
            exact hc
          · refine value_ (w1 := ?_) (v := ?_) (by rfl) rfl ?_ ?_
            rotate_left 2
            · go_simp
              constructor
              · rfl
              · rfl
            have hbl := below_alloc (Below.refl W.heap.size W) (Obj.cells #[.int .i64 m3] 3)
            have hf2 : Fam (W.alloc (Obj.cells #[.int .i64 m3] 3)) w.heap.size ([(.slice Ax0 x0.length cx0, x0), (.slice Ax1 x1.length cx1, x1), (.slice Ax2 x2.length cx2, x2), (.slice Ax3 x3.length cx3, x3), (.slice (some ⟨gl, 0, none⟩) 4 cl_, [m0, m1, m2, m3]), (.slice (some ⟨g0, 0, none⟩) 1 1, [m0]), (.slice (some ⟨g1, 0, none⟩) 1 1, [m1]), (.slice (some ⟨g2, 0, none⟩) 1 1, [m2]), (.slice (some ⟨W.heap.size, 0, none⟩) 1 1, [m3])] : List (Value × List Int)) := hf.made hb.size 8 rfl m3
            refine hK.out _ _ ⟨blk_below k4 hbl, hf2.cells4 4 rfl⟩ (fun hHeld => ?_)
            clear hK K
            have hc := S0123_0.out (g0, g1, g2, W.heap.size) _ ⟨below_step hb hbl, blk_below k4 hbl, blk_below k2 hbl, Kd.R_below hp hbl, hf2⟩
            simp only [putAll, Act.put, List.setIfInBounds_toArray, List.set_cons_zero, List.set_cons_succ] at hc
            refine norm_ (a' := ?_) ?_ ?_
            rotate_left
            · show Act.put _ (some 65) _ = _
              simp only [Act.put, List.setIfInBounds_toArray, List.set_cons_zero, List.set_cons_succ, i64_w, i32_w]
              rfl
            exact hc
        intro H_
        have S012_0 := Aside0.mk H_
        clear H_
        refine join_ 13 #[true, true, true, true, true, true, false, true, true, true, true, true, true, false, true, true, true, true, true, false, false, true, true, true, true, true, true, false, false, false, false, false, false, false, false, false] (fun s : Nat × Nat × Nat => [(44, .slice (some ⟨s.1, 0, none⟩) 1 1), (51, .slice (some ⟨s.2.1, 0, none⟩) 1 1), (65, .slice (some ⟨s.2.2, 0, none⟩) 1 1)]) (fun s W_ => Below w.heap.size w W_ ∧ W_.heap[G4]? = some (.cells #[.slice Ax0 x0.length cx0, .slice Ax1 x1.length cx1, .slice Ax2 x2.length cx2, .slice Ax3 x3.length cx3] 47 (0, 0)) ∧ W_.heap[G2]? = some (.cells #[.slice none 0 0, .slice none 0 0, .slice none 0 0, .slice none 0 0] 47 (0, 0)) ∧ Kd.string.R 9 W_ w4.heap.size (fun _ => True) (.slice (some ad) ws.length c5) ws ∧ Fam W_ w.heap.size ([(.slice Ax0 x0.length cx0, x0), (.slice Ax1 x1.length cx1, x1), (.slice Ax2 x2.length cx2, x2), (.slice Ax3 x3.length cx3, x3), (.slice (some ⟨gl, 0, none⟩) 4 cl_, [m0, m1, m2, m3]), (.slice (some ⟨s.1, 0, none⟩) 1 1, [m0]), (.slice (some ⟨s.2.1, 0, none⟩) 1 1, [m1]), (.slice none 0 0, []), (.slice (some ⟨s.2.2, 0, none⟩) 1 1, [m3])] : List (Value × List Int))) ?_ ?_
        · rintro ⟨g0, g1, g3⟩ W ⟨hb, k4, k2, hp, hf⟩
          refine norm_ (a' := ?_) ?_ ?_
          rotate_left
          · show putAll _ _ = _
            simp only [putAll, Act.put, List.setIfInBounds_toArray, List.set_cons_zero, List.set_cons_succ, i64_w, i32_w]
            rfl
          refine two_ (i := 6) (j := 19) (Ni := some 45) (Nj := some 58) #[true, true, true, true, true, true, true, true, true, true, true, true, true, false, true, true, true, true, true, false, false, true, true, true, true, true, true, false, false, false, false, false, false, false, false, false] #[true, true, true, true, true, true, false, true, true, true, true, true, true, false, true, true, true, true, true, true, false, true, true, true, true, true, true, false, false, false, false, false, false, false, false, false] rfl rfl rfl rfl (two_of HT_.out (by kernel_rfl)) (by decide) (by decide) (fun K hK => ?_) (fun K hK => ?_)
          · refine Kd.R_append_rows_step (Kd.int .i64) (Rr := (Kd.int .i64).K W) (w0 := w) w.heap.size (by rfl) (.tmp 40) (.tmp 44) 45 3 (.int .i64 0) 8 rfl Tryd.underlying45 info3 rfl (by decide) (by omega) (.slice Ax0 x0.length cx0) x0 [m0] (some ⟨g0, 0, none⟩) 1 1 (fun _ => True) (fun _ => False) (by rfl) (by rfl) (hf.get 0 rfl) (Kd.R_reads' (hf.get 5 rfl)).2.2 (fun _ _ h_ => h_) (fun _ h_ => h_.elim) (fun _ _ => trivial) hb hb.size (by have := HL.out; omega) ?_
            intro v0 W2 ho hb2 hg hat
            rw [← NY0.out] at ho
            have hf2 : Fam W2 w.heap.size ([(v0, y0), (.slice Ax1 x1.length cx1, x1), (.slice Ax2 x2.length cx2, x2), (.slice Ax3 x3.length cx3, x3), (.slice (some ⟨gl, 0, none⟩) 4 cl_, [m0, m1, m2, m3]), (.slice (some ⟨g0, 0, none⟩) 1 1, [m0]), (.slice (some ⟨g1, 0, none⟩) 1 1, [m1]), (.slice none 0 0, []), (.slice (some ⟨g3, 0, none⟩) 1 1, [m3])] : List (Value × List Int)) := hf.replace 0 rfl ho hg hat
            have k42 := blk_grown k4 hg (Kd.R_ne (hf.get 0 rfl) k4 (by decide))
            have k22 := blk_grown k2 hg (Kd.R_ne (hf.get 0 rfl) k2 (by decide))
            have hp2 := Kd.R_over' hp (Kd.R_typed (hf.get 0 rfl)) (by decide) hg
            refine hK.out _ _ ⟨k42, hf2.cells4 4 rfl⟩ (fun hHeld => ?_)
            clear hK K
            have hc := S013_1.out (g0, g1, g3, v0) _ ⟨hb2, k42, k22, hp2, hf2⟩
            simp only [putAll, Act.put, List.setIfInBounds_toArray, List.set_cons_zero, List.set_cons_succ] at hc
            refine norm_ (a' := ?_) ?_ ?_
            rotate_left
            · show Act.put _ (some 45) _ = _
              simp only [Act.put, List.setIfInBounds_toArray, List.set_cons_zero, List.set_cons_succ, i64_w, i32_w]
              rfl
            refine pure_ (i := 28) (N := some 67) (v := ?_) (a' := ?_) #[true, true, true, true, true, true, true, true, true, true, true, true, true, false, true, true, true, true, true, false, false, true, true, true, true, true, true, false, true, false, false, false, false, false, false, false] rfl rfl (any_of HT_.out (by kernel_rfl)) (fun _ _ _ h => h) (Or.inl ⟨by rfl, ?_⟩) ?_ ?_
            rotate_left
            · intro w'
              go_simp
              with_reducible rfl
            rotate_left
            · simp only [Act.put, List.setIfInBounds_toArray, List.set_cons_zero, List.set_cons_succ, i64_w, i32_w]
              rfl
            exact hc
          · refine value_ (w1 := ?_) (v := ?_) (by rfl) rfl ?_ ?_
            rotate_left 2
            · go_simp
              constructor
              · rfl
              · rfl
            have hbl := below_alloc (Below.refl W.heap.size W) (Obj.cells #[.int .i64 m2] 3)
            have hf2 : Fam (W.alloc (Obj.cells #[.int .i64 m2] 3)) w.heap.size ([(.slice Ax0 x0.length cx0, x0), (.slice Ax1 x1.length cx1, x1), (.slice Ax2 x2.length cx2, x2), (.slice Ax3 x3.length cx3, x3), (.slice (some ⟨gl, 0, none⟩) 4 cl_, [m0, m1, m2, m3]), (.slice (some ⟨g0, 0, none⟩) 1 1, [m0]), (.slice (some ⟨g1, 0, none⟩) 1 1, [m1]), (.slice (some ⟨W.heap.size, 0, none⟩) 1 1, [m2]), (.slice (some ⟨g3, 0, none⟩) 1 1, [m3])] : List (Value × List Int)) := hf.made hb.size 7 rfl m2
            refine hK.out _ _ ⟨blk_below k4 hbl, hf2.cells4 4 rfl⟩ (fun hHeld => ?_)
            clear hK K
            have hc := S0123_0.out (g0, g1, W.heap.size, g3) _ ⟨below_step hb hbl, blk_below k4 hbl, blk_below k2 hbl, Kd.R_below hp hbl, hf2⟩
            simp only [putAll, Act.put, List.setIfInBounds_toArray, List.set_cons_zero, List.set_cons_succ] at hc
            refine norm_ (a' := ?_) ?_ ?_
            rotate_left
            · show Act.put _ (some 58) _ = _
              simp only [Act.put, List.setIfInBounds_toArray, List.set_cons_zero, List.set_cons_succ, i64_w, i32_w]
              rfl
            exact hc
        intro H_
        have S013_0 := Aside0.mk H_
        clear H_
        refine join_ 13 #[true, true, true, true, true, true, false, true, true, true, true, true, false, false, true, true, true, true, true, true, false, true, true, true, true, true, true, false, false, false, false, false, false, false, false, false] (fun s : Nat × Nat × Nat => [(44, .slice (some ⟨s.1, 0, none⟩) 1 1), (58, .slice (some ⟨s.2.1, 0, none⟩) 1 1), (65, .slice (some ⟨s.2.2, 0, none⟩) 1 1)]) (fun s W_ => Below w.heap.size w W_ ∧ W_.heap[G4]? = some (.cells #[.slice Ax0 x0.length cx0, .slice Ax1 x1.length cx1, .slice Ax2 x2.length cx2, .slice Ax3 x3.length cx3] 47 (0, 0)) ∧ W_.heap[G2]? = some (.cells #[.slice none 0 0, .slice none 0 0, .slice none 0 0, .slice none 0 0] 47 (0, 0)) ∧ Kd.string.R 9 W_ w4.heap.size (fun _ => True) (.slice (some ad) ws.length c5) ws ∧ Fam W_ w.heap.size ([(.slice Ax0 x0.length cx0, x0), (.slice Ax1 x1.length cx1, x1), (.slice Ax2 x2.length cx2, x2), (.slice Ax3 x3.length cx3, x3), (.slice (some ⟨gl, 0, none⟩) 4 cl_, [m0, m1, m2, m3]), (.slice (some ⟨s.1, 0, none⟩) 1 1, [m0]), (.slice none 0 0, []), (.slice (some ⟨s.2.1, 0, none⟩) 1 1, [m2]), (.slice (some ⟨s.2.2, 0, none⟩) 1 1, [m3])] : List (Value × List Int))) ?_ ?_
        · rintro ⟨g0, g2, g3⟩ W ⟨hb, k4, k2, hp, hf⟩
          refine norm_ (a' := ?_) ?_ ?_
          rotate_left
          · show putAll _ _ = _
            simp only [putAll, Act.put, List.setIfInBounds_toArray, List.set_cons_zero, List.set_cons_succ, i64_w, i32_w]
            rfl
          refine two_ (i := 6) (j := 12) (Ni := some 45) (Nj := some 51) #[true, true, true, true, true, true, true, true, true, true, true, true, false, false, true, true, true, true, true, true, false, true, true, true, true, true, true, false, false, false, false, false, false, false, false, false] #[true, true, true, true, true, true, false, true, true, true, true, true, true, false, true, true, true, true, true, true, false, true, true, true, true, true, true, false, false, false, false, false, false, false, false, false] rfl rfl rfl rfl (two_of HT_.out (by kernel_rfl)) (by decide) (by decide) (fun K hK => ?_) (fun K hK => ?_)
          · refine Kd.R_append_rows_step (Kd.int .i64) (Rr := (Kd.int .i64).K W) (w0 := w) w.heap.size (by rfl) (.tmp 40) (.tmp 44) 45 3 (.int .i64 0) 8 rfl Tryd.underlying45 info3 rfl (by decide) (by omega) (.slice Ax0 x0.length cx0) x0 [m0] (some ⟨g0, 0, none⟩) 1 1 (fun _ => True) (fun _ => False) (by rfl) (by rfl) (hf.get 0 rfl) (Kd.R_reads' (hf.get 5 rfl)).2.2 (fun _ _ h_ => h_) (fun _ h_ => h_.elim) (fun _ _ => trivial) hb hb.size (by have := HL.out; omega) ?_
            intro v0 W2 ho hb2 hg hat
            rw [← NY0.out] at ho
            have hf2 : Fam W2 w.heap.size ([(v0, y0), (.slice Ax1 x1.length cx1, x1), (.slice Ax2 x2.length cx2, x2), (.slice Ax3 x3.length cx3, x3), (.slice (some ⟨gl, 0, none⟩) 4 cl_, [m0, m1, m2, m3]), (.slice (some ⟨g0, 0, none⟩) 1 1, [m0]), (.slice none 0 0, []), (.slice (some ⟨g2, 0, none⟩) 1 1, [m2]), (.slice (some ⟨g3, 0, none⟩) 1 1, [m3])] : List (Value × List Int)) := hf.replace 0 rfl ho hg hat
            have k42 := blk_grown k4 hg (Kd.R_ne (hf.get 0 rfl) k4 (by decide))
            have k22 := blk_grown k2 hg (Kd.R_ne (hf.get 0 rfl) k2 (by decide))
            have hp2 := Kd.R_over' hp (Kd.R_typed (hf.get 0 rfl)) (by decide) hg
            refine hK.out _ _ ⟨k42, hf2.cells4 4 rfl⟩ (fun hHeld => ?_)
            clear hK K
            have hc := S023_1.out (g0, g2, g3, v0) _ ⟨hb2, k42, k22, hp2, hf2⟩
            simp only [putAll, Act.put, List.setIfInBounds_toArray, List.set_cons_zero, List.set_cons_succ] at hc
            refine norm_ (a' := ?_) ?_ ?_
            rotate_left
            · show Act.put _ (some 45) _ = _
              simp only [Act.put, List.setIfInBounds_toArray, List.set_cons_zero, List.set_cons_succ, i64_w, i32_w]
              rfl
            refine pure_ (i := 28) (N := some 67) (v := ?_) (a' := ?_) #[true, true, true, true, true, true, true, true, true, true, true, true, false, false, true, true, true, true, true, true, false, true, true, true, true, true, true, false, true, false, false, false, false, false, false, false] rfl rfl (any_of HT_.out (by kernel_rfl)) (fun _ _ _ h => h) (Or.inl ⟨by rfl, ?_⟩) ?_ ?_
            rotate_left
            · intro w'
              go_simp
              with_reducible rfl
            rotate_left
            · simp only [Act.put, List.setIfInBounds_toArray, List.set_cons_zero, List.set_cons_succ, i64_w, i32_w]
              rfl
            exact hc
          · refine value_ (w1 := ?_) (v := ?_) (by rfl) rfl ?_ ?_
            rotate_left 2
            · go_simp
              constructor
              · rfl
              · rfl
            have hbl := below_alloc (Below.refl W.heap.size W) (Obj.cells #[.int .i64 m1] 3)
            have hf2 : Fam (W.alloc (Obj.cells #[.int .i64 m1] 3)) w.heap.size ([(.slice Ax0 x0.length cx0, x0), (.slice Ax1 x1.length cx1, x1), (.slice Ax2 x2.length cx2, x2), (.slice Ax3 x3.length cx3, x3), (.slice (some ⟨gl, 0, none⟩) 4 cl_, [m0, m1, m2, m3]), (.slice (some ⟨g0, 0, none⟩) 1 1, [m0]), (.slice (some ⟨W.heap.size, 0, none⟩) 1 1, [m1]), (.slice (some ⟨g2, 0, none⟩) 1 1, [m2]), (.slice (some ⟨g3, 0, none⟩) 1 1, [m3])] : List (Value × List Int)) := hf.made hb.size 6 rfl m1
            refine hK.out _ _ ⟨blk_below k4 hbl, hf2.cells4 4 rfl⟩ (fun hHeld => ?_)
            clear hK K
            have hc := S0123_0.out (g0, W.heap.size, g2, g3) _ ⟨below_step hb hbl, blk_below k4 hbl, blk_below k2 hbl, Kd.R_below hp hbl, hf2⟩
            simp only [putAll, Act.put, List.setIfInBounds_toArray, List.set_cons_zero, List.set_cons_succ] at hc
            refine norm_ (a' := ?_) ?_ ?_
            rotate_left
            · show Act.put _ (some 51) _ = _
              simp only [Act.put, List.setIfInBounds_toArray, List.set_cons_zero, List.set_cons_succ, i64_w, i32_w]
              rfl
            exact hc
        intro H_
        have S023_0 := Aside0.mk H_
        clear H_
        refine join_ 13 #[true, true, true, true, true, false, false, true, true, true, true, true, true, false, true, true, true, true, true, true, false, true, true, true, true, true, true, false, false, false, false, false, false, false, false, false] (fun s : Nat × Nat × Nat => [(51, .slice (some ⟨s.1, 0, none⟩) 1 1), (58, .slice (some ⟨s.2.1, 0, none⟩) 1 1), (65, .slice (some ⟨s.2.2, 0, none⟩) 1 1)]) (fun s W_ => Below w.heap.size w W_ ∧ W_.heap[G4]? = some (.cells #[.slice Ax0 x0.length cx0, .slice Ax1 x1.length cx1, .slice Ax2 x2.length cx2, .slice Ax3 x3.length cx3] 47 (0, 0)) ∧ W_.heap[G2]? = some (.cells #[.slice none 0 0, .slice none 0 0, .slice none 0 0, .slice none 0 0] 47 (0, 0)) ∧ Kd.string.R 9 W_ w4.heap.size (fun _ => True) (.slice (some ad) ws.length c5) ws ∧ Fam W_ w.heap.size ([(.slice Ax0 x0.length cx0, x0), (.slice Ax1 x1.length cx1, x1), (.slice Ax2 x2.length cx2, x2), (.slice Ax3 x3.length cx3, x3), (.slice (some ⟨gl, 0, none⟩) 4 cl_, [m0, m1, m2, m3]), (.slice none 0 0, []), (.slice (some ⟨s.1, 0, none⟩) 1 1, [m1]), (.slice (some ⟨s.2.1, 0, none⟩) 1 1, [m2]), (.slice (some ⟨s.2.2, 0, none⟩) 1 1, [m3])] : List (Value × List Int))) ?_ ?_
        · rintro ⟨g1, g2, g3⟩ W ⟨hb, k4, k2, hp, hf⟩
          refine norm_ (a' := ?_) ?_ ?_
          rotate_left
          · show putAll _ _ = _
            simp only [putAll, Act.put, List.setIfInBounds_toArray, List.set_cons_zero, List.set_cons_succ, i64_w, i32_w]
            rfl
          refine one_ (i := 5) (N := some 44) #[true, true, true, true, true, true, false, true, true, true, true, true, true, false, true, true, true, true, true, true, false, true, true, true, true, true, true, false, false, false, false, false, false, false, false, false] rfl rfl (one_of HT_.out (by kernel_rfl)) (by decide) (fun K hK => ?_)
          · refine value_ (w1 := ?_) (v := ?_) (by rfl) rfl ?_ ?_
            rotate_left 2
            · go_simp
              constructor
              · rfl
              · rfl
            have hbl := below_alloc (Below.refl W.heap.size W) (Obj.cells #[.int .i64 m0] 3)
            have hf2 : Fam (W.alloc (Obj.cells #[.int .i64 m0] 3)) w.heap.size ([(.slice Ax0 x0.length cx0, x0), (.slice Ax1 x1.length cx1, x1), (.slice Ax2 x2.length cx2, x2), (.slice Ax3 x3.length cx3, x3), (.slice (some ⟨gl, 0, none⟩) 4 cl_, [m0, m1, m2, m3]), (.slice (some ⟨W.heap.size, 0, none⟩) 1 1, [m0]), (.slice (some ⟨g1, 0, none⟩) 1 1, [m1]), (.slice (some ⟨g2, 0, none⟩) 1 1, [m2]), (.slice (some ⟨g3, 0, none⟩) 1 1, [m3])] : List (Value × List Int)) := hf.made hb.size 5 rfl m0
            refine hK.out _ _ ⟨blk_below k4 hbl, hf2.cells4 4 rfl⟩ (fun hHeld => ?_)
            clear hK K
            have hc := S0123_0.out (W.heap.size, g1, g2, g3) _ ⟨below_step hb hbl, blk_below k4 hbl, blk_below k2 hbl, Kd.R_below hp hbl, hf2⟩
            simp only [putAll, Act.put, List.setIfInBounds_toArray, List.set_cons_zero, List.set_cons_succ] at hc
            refine norm_ (a' := ?_) ?_ ?_
            rotate_left
            · show Act.put _ (some 44) _ = _
              simp only [Act.put, List.setIfInBounds_toArray, List.set_cons_zero, List.set_cons_succ, i64_w, i32_w]
              rfl
            exact hc
        intro H_
        have S123_0 := Aside0.mk H_
        clear H_
        refine join_ 13 #[true, true, true, true, true, true, true, true, true, true, true, true, false, false, true, true, true, true, true, false, false, true, true, true, true, true, false, false, true, false, false, false, false, false, false, false] (fun s : Nat × Value => [(44, .slice (some ⟨s.1, 0, none⟩) 1 1), (45, s.2), (67, .pointer (some ⟨G4, 0, none⟩))]) (fun s W_ => Below w.heap.size w W_ ∧ W_.heap[G4]? = some (.cells #[.slice Ax0 x0.length cx0, .slice Ax1 x1.length cx1, .slice Ax2 x2.length cx2, .slice Ax3 x3.length cx3] 47 (0, 0)) ∧ W_.heap[G2]? = some (.cells #[.slice none 0 0, .slice none 0 0, .slice none 0 0, .slice none 0 0] 47 (0, 0)) ∧ Kd.string.R 9 W_ w4.heap.size (fun _ => True) (.slice (some ad) ws.length c5) ws ∧ Fam W_ w.heap.size ([(s.2, y0), (.slice Ax1 x1.length cx1, x1), (.slice Ax2 x2.length cx2, x2), (.slice Ax3 x3.length cx3, x3), (.slice (some ⟨gl, 0, none⟩) 4 cl_, [m0, m1, m2, m3]), (.slice (some ⟨s.1, 0, none⟩) 1 1, [m0]), (.slice none 0 0, []), (.slice none 0 0, []), (.slice none 0 0, [])] : List (Value × List Int))) ?_ ?_
        · rintro ⟨g0, v0⟩ W ⟨hb, k4, k2, hp, hf⟩
          refine norm_ (a' := ?_) ?_ ?_
          rotate_left
          · show putAll _ _ = _
            simp only [putAll, Act.put, List.setIfInBounds_toArray, List.set_cons_zero, List.set_cons_succ, i64_w, i32_w]
            rfl
          refine three_ (i := 12) (j := 19) (k := 26) (Ni := some 51) (Nj := some 58) (Nk := some 65) #[true, true, true, true, true, true, true, true, true, true, true, true, true, false, true, true, true, true, true, false, false, true, true, true, true, true, false, false, true, false, false, false, false, false, false, false] #[true, true, true, true, true, true, true, true, true, true, true, true, false, false, true, true, true, true, true, true, false, true, true, true, true, true, false, false, true, false, false, false, false, false, false, false] #[true, true, true, true, true, true, true, true, true, true, true, true, false, false, true, true, true, true, true, false, false, true, true, true, true, true, true, false, true, false, false, false, false, false, false, false] rfl rfl rfl rfl rfl rfl (three_of HT_.out (by kernel_rfl)) (by decide) (by decide) (by decide) (fun K hK => ?_) (fun K hK => ?_) (fun K hK => ?_)
          · refine value_ (w1 := ?_) (v := ?_) (by rfl) rfl ?_ ?_
            rotate_left 2
            · go_simp
              constructor
              · rfl
              · rfl
            have hbl := below_alloc (Below.refl W.heap.size W) (Obj.cells #[.int .i64 m1] 3)
            have hf2 : Fam (W.alloc (Obj.cells #[.int .i64 m1] 3)) w.heap.size ([(v0, y0), (.slice Ax1 x1.length cx1, x1), (.slice Ax2 x2.length cx2, x2), (.slice Ax3 x3.length cx3, x3), (.slice (some ⟨gl, 0, none⟩) 4 cl_, [m0, m1, m2, m3]), (.slice (some ⟨g0, 0, none⟩) 1 1, [m0]), (.slice (some ⟨W.heap.size, 0, none⟩) 1 1, [m1]), (.slice none 0 0, []), (.slice none 0 0, [])] : List (Value × List Int)) := hf.made hb.size 6 rfl m1
            refine hK.out _ _ ⟨blk_below k4 hbl, hf2.cells4 4 rfl⟩ (fun hHeld => ?_)
            clear hK K
            have hc := S01_1.out (g0, W.heap.size, v0) _ ⟨below_step hb hbl, blk_below k4 hbl, blk_below k2 hbl, Kd.R_below hp hbl, hf2⟩
            simp only [putAll, Act.put, List.setIfInBounds_toArray, List.set_cons_zero, List.set_cons_succ] at hc
            refine norm_ (a' := ?_) ?_ ?_
            rotate_left
            · show Act.put _ (some 51) _ = _
              simp only [Act.put, List.setIfInBounds_toArray, List.set_cons_zero, List.set_cons_succ, i64_w, i32_w]
              rfl
            exact hc
          · refine value_ (w1 := ?_) (v := ?_) (by rfl) rfl ?_ ?_
            rotate_left 2
            · go_simp
              constructor
              · rfl
              · rfl
            have hbl := below_alloc (Below.refl W.heap.size W) (Obj.cells #[.int .i64 m2] 3)
            have hf2 : Fam (W.alloc (Obj.cells #[.int .i64 m2] 3)) w.heap.size ([(v0, y0), (.slice Ax1 x1.length cx1, x1), (.slice Ax2 x2.length cx2, x2), (.slice Ax3 x3.length cx3, x3), (.slice (some ⟨gl, 0, none⟩) 4 cl_, [m0, m1, m2, m3]), (.slice (some ⟨g0, 0, none⟩) 1 1, [m0]), (.slice none 0 0, []), (.slice (some ⟨W.heap.size, 0, none⟩) 1 1, [m2]), (.slice none 0 0, [])] : List (Value × List Int)) := hf.made hb.size 7 rfl m2
            refine hK.out _ _ ⟨blk_below k4 hbl, hf2.cells4 4 rfl⟩ (fun hHeld => ?_)
            clear hK K
            have hc := S02_1.out (g0, W.heap.size, v0) _ ⟨below_step hb hbl, blk_below k4 hbl, blk_below k2 hbl, Kd.R_below hp hbl, hf2⟩
            simp only [putAll, Act.put, List.setIfInBounds_toArray, List.set_cons_zero, List.set_cons_succ] at hc
            refine norm_ (a' := ?_) ?_ ?_
            rotate_left
            · show Act.put _ (some 58) _ = _
              simp only [Act.put, List.setIfInBounds_toArray, List.set_cons_zero, List.set_cons_succ, i64_w, i32_w]
              rfl
            exact hc
          · refine value_ (w1 := ?_) (v := ?_) (by rfl) rfl ?_ ?_
            rotate_left 2
            · go_simp
              constructor
              · rfl
              · rfl
            have hbl := below_alloc (Below.refl W.heap.size W) (Obj.cells #[.int .i64 m3] 3)
            have hf2 : Fam (W.alloc (Obj.cells #[.int .i64 m3] 3)) w.heap.size ([(v0, y0), (.slice Ax1 x1.length cx1, x1), (.slice Ax2 x2.length cx2, x2), (.slice Ax3 x3.length cx3, x3), (.slice (some ⟨gl, 0, none⟩) 4 cl_, [m0, m1, m2, m3]), (.slice (some ⟨g0, 0, none⟩) 1 1, [m0]), (.slice none 0 0, []), (.slice none 0 0, []), (.slice (some ⟨W.heap.size, 0, none⟩) 1 1, [m3])] : List (Value × List Int)) := hf.made hb.size 8 rfl m3
            refine hK.out _ _ ⟨blk_below k4 hbl, hf2.cells4 4 rfl⟩ (fun hHeld => ?_)
            clear hK K
            have hc := S03_1.out (g0, W.heap.size, v0) _ ⟨below_step hb hbl, blk_below k4 hbl, blk_below k2 hbl, Kd.R_below hp hbl, hf2⟩
            simp only [putAll, Act.put, List.setIfInBounds_toArray, List.set_cons_zero, List.set_cons_succ] at hc
            refine norm_ (a' := ?_) ?_ ?_
            rotate_left
            · show Act.put _ (some 65) _ = _
              simp only [Act.put, List.setIfInBounds_toArray, List.set_cons_zero, List.set_cons_succ, i64_w, i32_w]
              rfl
            exact hc
        intro H_
        have S0_1 := Aside0.mk H_
        clear H_
        refine join_ 14 #[true, true, true, true, true, true, false, true, true, true, true, true, true, false, true, true, true, true, true, false, false, true, true, true, true, true, false, false, false, false, false, false, false, false, false, false] (fun s : Nat × Nat => [(44, .slice (some ⟨s.1, 0, none⟩) 1 1), (51, .slice (some ⟨s.2, 0, none⟩) 1 1)]) (fun s W_ => Below w.heap.size w W_ ∧ W_.heap[G4]? = some (.cells #[.slice Ax0 x0.length cx0, .slice Ax1 x1.length cx1, .slice Ax2 x2.length cx2, .slice Ax3 x3.length cx3] 47 (0, 0)) ∧ W_.heap[G2]? = some (.cells #[.slice none 0 0, .slice none 0 0, .slice none 0 0, .slice none 0 0] 47 (0, 0)) ∧ Kd.string.R 9 W_ w4.heap.size (fun _ => True) (.slice (some ad) ws.length c5) ws ∧ Fam W_ w.heap.size ([(.slice Ax0 x0.length cx0, x0), (.slice Ax1 x1.length cx1, x1), (.slice Ax2 x2.length cx2, x2), (.slice Ax3 x3.length cx3, x3), (.slice (some ⟨gl, 0, none⟩) 4 cl_, [m0, m1, m2, m3]), (.slice (some ⟨s.1, 0, none⟩) 1 1, [m0]), (.slice (some ⟨s.2, 0, none⟩) 1 1, [m1]), (.slice none 0 0, []), (.slice none 0 0, [])] : List (Value × List Int))) ?_ ?_
        · rintro ⟨g0, g1⟩ W ⟨hb, k4, k2, hp, hf⟩
          refine norm_ (a' := ?_) ?_ ?_
          rotate_left
          · show putAll _ _ = _
            simp only [putAll, Act.put, List.setIfInBounds_toArray, List.set_cons_zero, List.set_cons_succ, i64_w, i32_w]
            rfl
          refine three_ (i := 6) (j := 19) (k := 26) (Ni := some 45) (Nj := some 58) (Nk := some 65) #[true, true, true, true, true, true, true, true, true, true, true, true, true, false, true, true, true, true, true, false, false, true, true, true, true, true, false, false, false, false, false, false, false, false, false, false] #[true, true, true, true, true, true, false, true, true, true, true, true, true, false, true, true, true, true, true, true, false, true, true, true, true, true, false, false, false, false, false, false, false, false, false, false] #[true, true, true, true, true, true, false, true, true, true, true, true, true, false, true, true, true, true, true, false, false, true, true, true, true, true, true, false, false, false, false, false, false, false, false, false] rfl rfl rfl rfl rfl rfl (three_of HT_.out (by kernel_rfl)) (by decide) (by decide) (by decide) (fun K hK => ?_) (fun K hK => ?_) (fun K hK => ?_)
          · refine Kd.R_append_rows_step (Kd.int .i64) (Rr := (Kd.int .i64).K W) (w0 := w) w.heap.size (by rfl) (.tmp 40) (.tmp 44) 45 3 (.int .i64 0) 8 rfl Tryd.underlying45 info3 rfl (by decide) (by omega) (.slice Ax0 x0.length cx0) x0 [m0] (some ⟨g0, 0, none⟩) 1 1 (fun _ => True) (fun _ => False) (by rfl) (by rfl) (hf.get 0 rfl) (Kd.R_reads' (hf.get 5 rfl)).2.2 (fun _ _ h_ => h_) (fun _ h_ => h_.elim) (fun _ _ => trivial) hb hb.size (by have := HL.out; omega) ?_
            intro v0 W2 ho hb2 hg hat
            rw [← NY0.out] at ho
            have hf2 : Fam W2 w.heap.size ([(v0, y0), (.slice Ax1 x1.length cx1, x1), (.slice Ax2 x2.length cx2, x2), (.slice Ax3 x3.length cx3, x3), (.slice (some ⟨gl, 0, none⟩) 4 cl_, [m0, m1, m2, m3]), (.slice (some ⟨g0, 0, none⟩) 1 1, [m0]), (.slice (some ⟨g1, 0, none⟩) 1 1, [m1]), (.slice none 0 0, []), (.slice none 0 0, [])] : List (Value × List Int)) := hf.replace 0 rfl ho hg hat
            have k42 := blk_grown k4 hg (Kd.R_ne (hf.get 0 rfl) k4 (by decide))
            have k22 := blk_grown k2 hg (Kd.R_ne (hf.get 0 rfl) k2 (by decide))
            have hp2 := Kd.R_over' hp (Kd.R_typed (hf.get 0 rfl)) (by decide) hg
            refine hK.out _ _ ⟨k42, hf2.cells4 4 rfl⟩ (fun hHeld => ?_)
            clear hK K
            have hc := S01_1.out (g0, g1, v0) _ ⟨hb2, k42, k22, hp2, hf2⟩
            simp only [putAll, Act.put, List.setIfInBounds_toArray, List.set_cons_zero, List.set_cons_succ] at hc
            refine norm_ (a' := ?_) ?_ ?_
            rotate_left
            · show Act.put _ (some 45) _ = _
              simp only [Act.put, List.setIfInBounds_toArray, List.set_cons_zero, List.set_cons_succ, i64_w, i32_w]
              rfl
            refine pure_ (i := 28) (N := some 67) (v := ?_) (a' := ?_) #[true, true, true, true, true, true, true, true, true, true, true, true, true, false, true, true, true, true, true, false, false, true, true, true, true, true, false, false, true, false, false, false, false, false, false, false] rfl rfl (any_of HT_.out (by kernel_rfl)) (fun _ _ _ h => h) (Or.inl ⟨by rfl, ?_⟩) ?_ ?_
            rotate_left
            · intro w'
              go_simp
              with_reducible rfl
            rotate_left
            · simp only [Act.put, List.setIfInBounds_toArray, List.set_cons_zero, List.set_cons_succ, i64_w, i32_w]
              rfl
            exact hc
          · refine value_ (w1 := ?_) (v := ?_) (by rfl) rfl ?_ ?_
            rotate_left 2
            · go_simp
              constructor
              · rfl
              · rfl
            have hbl := below_alloc (Below.refl W.heap.size W) (Obj.cells #[.int .i64 m2] 3)
            have hf2 : Fam (W.alloc (Obj.cells #[.int .i64 m2] 3)) w.heap.size ([(.slice Ax0 x0.length cx0, x0), (.slice Ax1 x1.length cx1, x1), (.slice Ax2 x2.length cx2, x2), (.slice Ax3 x3.length cx3, x3), (.slice (some ⟨gl, 0, none⟩) 4 cl_, [m0, m1, m2, m3]), (.slice (some ⟨g0, 0, none⟩) 1 1, [m0]), (.slice (some ⟨g1, 0, none⟩) 1 1, [m1]), (.slice (some ⟨W.heap.size, 0, none⟩) 1 1, [m2]), (.slice none 0 0, [])] : List (Value × List Int)) := hf.made hb.size 7 rfl m2
            refine hK.out _ _ ⟨blk_below k4 hbl, hf2.cells4 4 rfl⟩ (fun hHeld => ?_)
            clear hK K
            have hc := S012_0.out (g0, g1, W.heap.size) _ ⟨below_step hb hbl, blk_below k4 hbl, blk_below k2 hbl, Kd.R_below hp hbl, hf2⟩
            simp only [putAll, Act.put, List.setIfInBounds_toArray, List.set_cons_zero, List.set_cons_succ] at hc
            refine norm_ (a' := ?_) ?_ ?_
            rotate_left
            · show Act.put _ (some 58) _ = _
              simp only [Act.put, List.setIfInBounds_toArray, List.set_cons_zero, List.set_cons_succ, i64_w, i32_w]
              rfl
            exact hc
          · refine value_ (w1 := ?_) (v := ?_) (by rfl) rfl ?_ ?_
            rotate_left 2
            · go_simp
              constructor
              · rfl
              · rfl
            have hbl := below_alloc (Below.refl W.heap.size W) (Obj.cells #[.int .i64 m3] 3)
            have hf2 : Fam (W.alloc (Obj.cells #[.int .i64 m3] 3)) w.heap.size ([(.slice Ax0 x0.length cx0, x0), (.slice Ax1 x1.length cx1, x1), (.slice Ax2 x2.length cx2, x2), (.slice Ax3 x3.length cx3, x3), (.slice (some ⟨gl, 0, none⟩) 4 cl_, [m0, m1, m2, m3]), (.slice (some ⟨g0, 0, none⟩) 1 1, [m0]), (.slice (some ⟨g1, 0, none⟩) 1 1, [m1]), (.slice none 0 0, []), (.slice (some ⟨W.heap.size, 0, none⟩) 1 1, [m3])] : List (Value × List Int)) := hf.made hb.size 8 rfl m3
            refine hK.out _ _ ⟨blk_below k4 hbl, hf2.cells4 4 rfl⟩ (fun hHeld => ?_)
            clear hK K
            have hc := S013_0.out (g0, g1, W.heap.size) _ ⟨below_step hb hbl, blk_below k4 hbl, blk_below k2 hbl, Kd.R_below hp hbl, hf2⟩
            simp only [putAll, Act.put, List.setIfInBounds_toArray, List.set_cons_zero, List.set_cons_succ] at hc
            refine norm_ (a' := ?_) ?_ ?_
            rotate_left
            · show Act.put _ (some 65) _ = _
              simp only [Act.put, List.setIfInBounds_toArray, List.set_cons_zero, List.set_cons_succ, i64_w, i32_w]
              rfl
            exact hc
        intro H_
        have S01_0 := Aside0.mk H_
        clear H_
        refine join_ 14 #[true, true, true, true, true, true, false, true, true, true, true, true, false, false, true, true, true, true, true, true, false, true, true, true, true, true, false, false, false, false, false, false, false, false, false, false] (fun s : Nat × Nat => [(44, .slice (some ⟨s.1, 0, none⟩) 1 1), (58, .slice (some ⟨s.2, 0, none⟩) 1 1)]) (fun s W_ => Below w.heap.size w W_ ∧ W_.heap[G4]? = some (.cells #[.slice Ax0 x0.length cx0, .slice Ax1 x1.length cx1, .slice Ax2 x2.length cx2, .slice Ax3 x3.length cx3] 47 (0, 0)) ∧ W_.heap[G2]? = some (.cells #[.slice none 0 0, .slice none 0 0, .slice none 0 0, .slice none 0 0] 47 (0, 0)) ∧ Kd.string.R 9 W_ w4.heap.size (fun _ => True) (.slice (some ad) ws.length c5) ws ∧ Fam W_ w.heap.size ([(.slice Ax0 x0.length cx0, x0), (.slice Ax1 x1.length cx1, x1), (.slice Ax2 x2.length cx2, x2), (.slice Ax3 x3.length cx3, x3), (.slice (some ⟨gl, 0, none⟩) 4 cl_, [m0, m1, m2, m3]), (.slice (some ⟨s.1, 0, none⟩) 1 1, [m0]), (.slice none 0 0, []), (.slice (some ⟨s.2, 0, none⟩) 1 1, [m2]), (.slice none 0 0, [])] : List (Value × List Int))) ?_ ?_
        · rintro ⟨g0, g2⟩ W ⟨hb, k4, k2, hp, hf⟩
          refine norm_ (a' := ?_) ?_ ?_
          rotate_left
          · show putAll _ _ = _
            simp only [putAll, Act.put, List.setIfInBounds_toArray, List.set_cons_zero, List.set_cons_succ, i64_w, i32_w]
            rfl
          refine three_ (i := 6) (j := 12) (k := 26) (Ni := some 45) (Nj := some 51) (Nk := some 65) #[true, true, true, true, true, true, true, true, true, true, true, true, false, false, true, true, true, true, true, true, false, true, true, true, true, true, false, false, false, false, false, false, false, false, false, false] #[true, true, true, true, true, true, false, true, true, true, true, true, true, false, true, true, true, true, true, true, false, true, true, true, true, true, false, false, false, false, false, false, false, false, false, false] #[true, true, true, true, true, true, false, true, true, true, true, true, false, false, true, true, true, true, true, true, false, true, true, true, true, true, true, false, false, false, false, false, false, false, false, false] rfl rfl rfl rfl rfl rfl (three_of HT_.out (by kernel_rfl)) (by decide) (by decide) (by decide) (fun K hK => ?_) (fun K hK => ?_) (fun K hK => ?_)
          · refine Kd.R_append_rows_step (Kd.int .i64) (Rr := (Kd.int .i64).K W) (w0 := w) w.heap.size (by rfl) (.tmp 40) (.tmp 44) 45 3 (.int .i64 0) 8 rfl Tryd.underlying45 info3 rfl (by decide) (by omega) (.slice Ax0 x0.length cx0) x0 [m0] (some ⟨g0, 0, none⟩) 1 1 (fun _ => True) (fun _ => False) (by rfl) (by rfl) (hf.get 0 rfl) (Kd.R_reads' (hf.get 5 rfl)).2.2 (fun _ _ h_ => h_) (fun _ h_ => h_.elim) (fun _ _ => trivial) hb hb.size (by have := HL.out; omega) ?_
            intro v0 W2 ho hb2 hg hat
            rw [← NY0.out] at ho
            have hf2 : Fam W2 w.heap.size ([(v0, y0), (.slice Ax1 x1.length cx1, x1), (.slice Ax2 x2.length cx2, x2), (.slice Ax3 x3.length cx3, x3), (.slice (some ⟨gl, 0, none⟩) 4 cl_, [m0, m1, m2, m3]), (.slice (some ⟨g0, 0, none⟩) 1 1, [m0]), (.slice none 0 0, []), (.slice (some ⟨g2, 0, none⟩) 1 1, [m2]), (.slice none 0 0, [])] : List (Value × List Int)) := hf.replace 0 rfl ho hg hat
            have k42 := blk_grown k4 hg (Kd.R_ne (hf.get 0 rfl) k4 (by decide))
            have k22 := blk_grown k2 hg (Kd.R_ne (hf.get 0 rfl) k2 (by decide))
            have hp2 := Kd.R_over' hp (Kd.R_typed (hf.get 0 rfl)) (by decide) hg
            refine hK.out _ _ ⟨k42, hf2.cells4 4 rfl⟩ (fun hHeld => ?_)
            clear hK K
            have hc := S02_1.out (g0, g2, v0) _ ⟨hb2, k42, k22, hp2, hf2⟩
            simp only [putAll, Act.put, List.setIfInBounds_toArray, List.set_cons_zero, List.set_cons_succ] at hc
            refine norm_ (a' := ?_) ?_ ?_
            rotate_left
            · show Act.put _ (some 45) _ = _
              simp only [Act.put, List.setIfInBounds_toArray, List.set_cons_zero, List.set_cons_succ, i64_w, i32_w]
              rfl
            refine pure_ (i := 28) (N := some 67) (v := ?_) (a' := ?_) #[true, true, true, true, true, true, true, true, true, true, true, true, false, false, true, true, true, true, true, true, false, true, true, true, true, true, false, false, true, false, false, false, false, false, false, false] rfl rfl (any_of HT_.out (by kernel_rfl)) (fun _ _ _ h => h) (Or.inl ⟨by rfl, ?_⟩) ?_ ?_
            rotate_left
            · intro w'
              go_simp
              with_reducible rfl
            rotate_left
            · simp only [Act.put, List.setIfInBounds_toArray, List.set_cons_zero, List.set_cons_succ, i64_w, i32_w]
              rfl
            exact hc
          · refine value_ (w1 := ?_) (v := ?_) (by rfl) rfl ?_ ?_
            rotate_left 2
            · go_simp
              constructor
              · rfl
              · rfl
            have hbl := below_alloc (Below.refl W.heap.size W) (Obj.cells #[.int .i64 m1] 3)
            have hf2 : Fam (W.alloc (Obj.cells #[.int .i64 m1] 3)) w.heap.size ([(.slice Ax0 x0.length cx0, x0), (.slice Ax1 x1.length cx1, x1), (.slice Ax2 x2.length cx2, x2), (.slice Ax3 x3.length cx3, x3), (.slice (some ⟨gl, 0, none⟩) 4 cl_, [m0, m1, m2, m3]), (.slice (some ⟨g0, 0, none⟩) 1 1, [m0]), (.slice (some ⟨W.heap.size, 0, none⟩) 1 1, [m1]), (.slice (some ⟨g2, 0, none⟩) 1 1, [m2]), (.slice none 0 0, [])] : List (Value × List Int)) := hf.made hb.size 6 rfl m1
            refine hK.out _ _ ⟨blk_below k4 hbl, hf2.cells4 4 rfl⟩ (fun hHeld => ?_)
            clear hK K
            have hc := S012_0.out (g0, W.heap.size, g2) _ ⟨below_step hb hbl, blk_below k4 hbl, blk_below k2 hbl, Kd.R_below hp hbl, hf2⟩
            simp only [putAll, Act.put, List.setIfInBounds_toArray, List.set_cons_zero, List.set_cons_succ] at hc
            refine norm_ (a' := ?_) ?_ ?_
            rotate_left
            · show Act.put _ (some 51) _ = _
              simp only [Act.put, List.setIfInBounds_toArray, List.set_cons_zero, List.set_cons_succ, i64_w, i32_w]
              rfl
            exact hc
          · refine value_ (w1 := ?_) (v := ?_) (by rfl) rfl ?_ ?_
            rotate_left 2
            · go_simp
              constructor
              · rfl
              · rfl
            have hbl := below_alloc (Below.refl W.heap.size W) (Obj.cells #[.int .i64 m3] 3)
            have hf2 : Fam (W.alloc (Obj.cells #[.int .i64 m3] 3)) w.heap.size ([(.slice Ax0 x0.length cx0, x0), (.slice Ax1 x1.length cx1, x1), (.slice Ax2 x2.length cx2, x2), (.slice Ax3 x3.length cx3, x3), (.slice (some ⟨gl, 0, none⟩) 4 cl_, [m0, m1, m2, m3]), (.slice (some ⟨g0, 0, none⟩) 1 1, [m0]), (.slice none 0 0, []), (.slice (some ⟨g2, 0, none⟩) 1 1, [m2]), (.slice (some ⟨W.heap.size, 0, none⟩) 1 1, [m3])] : List (Value × List Int)) := hf.made hb.size 8 rfl m3
            refine hK.out _ _ ⟨blk_below k4 hbl, hf2.cells4 4 rfl⟩ (fun hHeld => ?_)
            clear hK K
            have hc := S023_0.out (g0, g2, W.heap.size) _ ⟨below_step hb hbl, blk_below k4 hbl, blk_below k2 hbl, Kd.R_below hp hbl, hf2⟩
            simp only [putAll, Act.put, List.setIfInBounds_toArray, List.set_cons_zero, List.set_cons_succ] at hc
            refine norm_ (a' := ?_) ?_ ?_
            rotate_left
            · show Act.put _ (some 65) _ = _
              simp only [Act.put, List.setIfInBounds_toArray, List.set_cons_zero, List.set_cons_succ, i64_w, i32_w]
              rfl
            exact hc
        intro H_
        have S02_0 := Aside0.mk H_
        clear H_
        refine join_ 14 #[true, true, true, true, true, true, false, true, true, true, true, true, false, false, true, true, true, true, true, false, false, true, true, true, true, true, true, false, false, false, false, false, false, false, false, false] (fun s : Nat × Nat => [(44, .slice (some ⟨s.1, 0, none⟩) 1 1), (65, .slice (some ⟨s.2, 0, none⟩) 1 1)]) (fun s W_ => Below w.heap.size w W_ ∧ W_.heap[G4]? = some (.cells #[.slice Ax0 x0.length cx0, .slice Ax1 x1.length cx1, .slice Ax2 x2.length cx2, .slice Ax3 x3.length cx3] 47 (0, 0)) ∧ W_.heap[G2]? = some (.cells #[.slice none 0 0, .slice none 0 0, .slice none 0 0, .slice none 0 0] 47 (0, 0)) ∧ Kd.string.R 9 W_ w4.heap.size (fun _ => True) (.slice (some ad) ws.length c5) ws ∧ Fam W_ w.heap.size ([(.slice Ax0 x0.length cx0, x0), (.slice Ax1 x1.length cx1, x1), (.slice Ax2 x2.length cx2, x2), (.slice Ax3 x3.length cx3, x3), (.slice (some ⟨gl, 0, none⟩) 4 cl_, [m0, m1, m2, m3]), (.slice (some ⟨s.1, 0, none⟩) 1 1, [m0]), (.slice none 0 0, []), (.slice none 0 0, []), (.slice (some ⟨s.2, 0, none⟩) 1 1, [m3])] : List (Value × List Int))) ?_ ?_
        · rintro ⟨g0, g3⟩ W ⟨hb, k4, k2, hp, hf⟩
          refine norm_ (a' := ?_) ?_ ?_
          rotate_left
          · show putAll _ _ = _
            simp only [putAll, Act.put, List.setIfInBounds_toArray, List.set_cons_zero, List.set_cons_succ, i64_w, i32_w]
            rfl
          refine three_ (i := 6) (j := 12) (k := 19) (Ni := some 45) (Nj := some 51) (Nk := some 58) #[true, true, true, true, true, true, true, true, true, true, true, true, false, false, true, true, true, true, true, false, false, true, true, true, true, true, true, false, false, false, false, false, false, false, false, false] #[true, true, true, true, true, true, false, true, true, true, true, true, true, false, true, true, true, true, true, false, false, true, true, true, true, true, true, false, false, false, false, false, false, false, false, false] #[true, true, true, true, true, true, false, true, true, true, true, true, false, false, true, true, true, true, true, true, false, true, true, true, true, true, true, false, false, false, false, false, false, false, false, false] rfl rfl rfl rfl rfl rfl (three_of HT_.out (by kernel_rfl)) (by decide) (by decide) (by decide) (fun K hK => ?_) (fun K hK => ?_) (fun K hK => ?_)
          · refine Kd.R_append_rows_step (Kd.int .i64) (Rr := (Kd.int .i64).K W) (w0 := w) w.heap.size (by rfl) (.tmp 40) (.tmp 44) 45 3 (.int .i64 0) 8 rfl Tryd.underlying45 info3 rfl (by decide) (by omega) (.slice Ax0 x0.length cx0) x0 [m0] (some ⟨g0, 0, none⟩) 1 1 (fun _ => True) (fun _ => False) (by rfl) (by rfl) (hf.get 0 rfl) (Kd.R_reads' (hf.get 5 rfl)).2.2 (fun _ _ h_ => h_) (fun _ h_ => h_.elim) (fun _ _ => trivial) hb hb.size (by have := HL.out; omega) ?_
            intro v0 W2 ho hb2 hg hat
            rw [← NY0.out] at ho
            have hf2 : Fam W2 w.heap.size ([(v0, y0), (.slice Ax1 x1.length cx1, x1), (.slice Ax2 x2.length cx2, x2), (.slice Ax3 x3.length cx3, x3), (.slice (some ⟨gl, 0, none⟩) 4 cl_, [m0, m1, m2, m3]), (.slice (some ⟨g0, 0, none⟩) 1 1, [m0]), (.slice none 0 0, []), (.slice none 0 0, []), (.slice (some ⟨g3, 0, none⟩) 1 1, [m3])] : List (Value × List Int)) := hf.replace 0 rfl ho hg hat
            have k42 := blk_grown k4 hg (Kd.R_ne (hf.get 0 rfl) k4 (by decide))
            have k22 := blk_grown k2 hg (Kd.R_ne (hf.get 0 rfl) k2 (by decide))
            have hp2 := Kd.R_over' hp (Kd.R_typed (hf.get 0 rfl)) (by decide) hg
            refine hK.out _ _ ⟨k42, hf2.cells4 4 rfl⟩ (fun hHeld => ?_)
            clear hK K
            have hc := S03_1.out (g0, g3, v0) _ ⟨hb2, k42, k22, hp2, hf2⟩
            simp only [putAll, Act.put, List.setIfInBounds_toArray, List.set_cons_zero, List.set_cons_succ] at hc
            refine norm_ (a' := ?_) ?_ ?_
            rotate_left
            · show Act.put _ (some 45) _ = _
              simp only [Act.put, List.setIfInBounds_toArray, List.set_cons_zero, List.set_cons_succ, i64_w, i32_w]
              rfl
            refine pure_ (i := 28) (N := some 67) (v := ?_) (a' := ?_) #[true, true, true, true, true, true, true, true, true, true, true, true, false, false, true, true, true, true, true, false, false, true, true, true, true, true, true, false, true, false, false, false, false, false, false, false] rfl rfl (any_of HT_.out (by kernel_rfl)) (fun _ _ _ h => h) (Or.inl ⟨by rfl, ?_⟩) ?_ ?_
            rotate_left
            · intro w'
              go_simp
              with_reducible rfl
            rotate_left
            · simp only [Act.put, List.setIfInBounds_toArray, List.set_cons_zero, List.set_cons_succ, i64_w, i32_w]
              rfl
            exact hc
          · refine value_ (w1 := ?_) (v := ?_) (by rfl) rfl ?_ ?_
            rotate_left 2
            · go_simp
              constructor
              · rfl
              · rfl
            have hbl := below_alloc (Below.refl W.heap.size W) (Obj.cells #[.int .i64 m1] 3)
            have hf2 : Fam (W.alloc (Obj.cells #[.int .i64 m1] 3)) w.heap.size ([(.slice Ax0 x0.length cx0, x0), (.slice Ax1 x1.length cx1, x1), (.slice Ax2 x2.length cx2, x2), (.slice Ax3 x3.length cx3, x3), (.slice (some ⟨gl, 0, none⟩) 4 cl_, [m0, m1, m2, m3]), (.slice (some ⟨g0, 0, none⟩) 1 1, [m0]), (.slice (some ⟨W.heap.size, 0, none⟩) 1 1, [m1]), (.slice none 0 0, []), (.slice (some ⟨g3, 0, none⟩) 1 1, [m3])] : List (Value × List Int)) := hf.made hb.size 6 rfl m1
            refine hK.out _ _ ⟨blk_below k4 hbl, hf2.cells4 4 rfl⟩ (fun hHeld => ?_)
            clear hK K
            have hc := S013_0.out (g0, W.heap.size, g3) _ ⟨below_step hb hbl, blk_below k4 hbl, blk_below k2 hbl, Kd.R_below hp hbl, hf2⟩
            simp only [putAll, Act.put, List.setIfInBounds_toArray, List.set_cons_zero, List.set_cons_succ] at hc
            refine norm_ (a' := ?_) ?_ ?_
            rotate_left
            · show Act.put _ (some 51) _ = _
              simp only [Act.put, List.setIfInBounds_toArray, List.set_cons_zero, List.set_cons_succ, i64_w, i32_w]
              rfl
            exact hc
          · refine value_ (w1 := ?_) (v := ?_) (by rfl) rfl ?_ ?_
            rotate_left 2
            · go_simp
              constructor
              · rfl
              · rfl
            have hbl := below_alloc (Below.refl W.heap.size W) (Obj.cells #[.int .i64 m2] 3)
            have hf2 : Fam (W.alloc (Obj.cells #[.int .i64 m2] 3)) w.heap.size ([(.slice Ax0 x0.length cx0, x0), (.slice Ax1 x1.length cx1, x1), (.slice Ax2 x2.length cx2, x2), (.slice Ax3 x3.length cx3, x3), (.slice (some ⟨gl, 0, none⟩) 4 cl_, [m0, m1, m2, m3]), (.slice (some ⟨g0, 0, none⟩) 1 1, [m0]), (.slice none 0 0, []), (.slice (some ⟨W.heap.size, 0, none⟩) 1 1, [m2]), (.slice (some ⟨g3, 0, none⟩) 1 1, [m3])] : List (Value × List Int)) := hf.made hb.size 7 rfl m2
            refine hK.out _ _ ⟨blk_below k4 hbl, hf2.cells4 4 rfl⟩ (fun hHeld => ?_)
            clear hK K
            have hc := S023_0.out (g0, W.heap.size, g3) _ ⟨below_step hb hbl, blk_below k4 hbl, blk_below k2 hbl, Kd.R_below hp hbl, hf2⟩
            simp only [putAll, Act.put, List.setIfInBounds_toArray, List.set_cons_zero, List.set_cons_succ] at hc
            refine norm_ (a' := ?_) ?_ ?_
            rotate_left
            · show Act.put _ (some 58) _ = _
              simp only [Act.put, List.setIfInBounds_toArray, List.set_cons_zero, List.set_cons_succ, i64_w, i32_w]
              rfl
            exact hc
        intro H_
        have S03_0 := Aside0.mk H_
        clear H_
        refine join_ 14 #[true, true, true, true, true, false, false, true, true, true, true, true, true, false, true, true, true, true, true, true, false, true, true, true, true, true, false, false, false, false, false, false, false, false, false, false] (fun s : Nat × Nat => [(51, .slice (some ⟨s.1, 0, none⟩) 1 1), (58, .slice (some ⟨s.2, 0, none⟩) 1 1)]) (fun s W_ => Below w.heap.size w W_ ∧ W_.heap[G4]? = some (.cells #[.slice Ax0 x0.length cx0, .slice Ax1 x1.length cx1, .slice Ax2 x2.length cx2, .slice Ax3 x3.length cx3] 47 (0, 0)) ∧ W_.heap[G2]? = some (.cells #[.slice none 0 0, .slice none 0 0, .slice none 0 0, .slice none 0 0] 47 (0, 0)) ∧ Kd.string.R 9 W_ w4.heap.size (fun _ => True) (.slice (some ad) ws.length c5) ws ∧ Fam W_ w.heap.size ([(.slice Ax0 x0.length cx0, x0), (.slice Ax1 x1.length cx1, x1), (.slice Ax2 x2.length cx2, x2), (.slice Ax3 x3.length cx3, x3), (.slice (some ⟨gl, 0, none⟩) 4 cl_, [m0, m1, m2, m3]), (.slice none 0 0, []), (.slice (some ⟨s.1, 0, none⟩) 1 1, [m1]), (.slice (some ⟨s.2, 0, none⟩) 1 1, [m2]), (.slice none 0 0, [])] : List (Value × List Int))) ?_ ?_
        · rintro ⟨g1, g2⟩ W ⟨hb, k4, k2, hp, hf⟩
          refine norm_ (a' := ?_) ?_ ?_
          rotate_left
          · show putAll _ _ = _
            simp only [putAll, Act.put, List.setIfInBounds_toArray, List.set_cons_zero, List.set_cons_succ, i64_w, i32_w]
            rfl
          refine two_ (i := 5) (j := 26) (Ni := some 44) (Nj := some 65) #[true, true, true, true, true, true, false, true, true, true, true, true, true, false, true, true, true, true, true, true, false, true, true, true, true, true, false, false, false, false, false, false, false, false, false, false] #[true, true, true, true, true, false, false, true, true, true, true, true, true, false, true, true, true, true, true, true, false, true, true, true, true, true, true, false, false, false, false, false, false, false, false, false] rfl rfl rfl rfl (two_of HT_.out (by kernel_rfl)) (by decide) (by decide) (fun K hK => ?_) (fun K hK => ?_)
          · refine value_ (w1 := ?_) (v := ?_) (by rfl) rfl ?_ ?_
            rotate_left 2
            · go_simp
              constructor
              · rfl
              · rfl
            have hbl := below_alloc (Below.refl W.heap.size W) (Obj.cells #[.int .i64 m0] 3)
            have hf2 : Fam (W.alloc (Obj.cells #[.int .i64 m0] 3)) w.heap.size ([(.slice Ax0 x0.length cx0, x0), (.slice Ax1 x1.length cx1, x1), (.slice Ax2 x2.length cx2, x2), (.slice Ax3 x3.length cx3, x3), (.slice (some ⟨gl, 0, none⟩) 4 cl_, [m0, m1, m2, m3]), (.slice (some ⟨W.heap.size, 0, none⟩) 1 1, [m0]), (.slice (some ⟨g1, 0, none⟩) 1 1, [m1]), (.slice (some ⟨g2, 0, none⟩) 1 1, [m2]), (.slice none 0 0, [])] : List (Value × List Int)) := hf.made hb.size 5 rfl m0
            refine hK.out _ _ ⟨blk_below k4 hbl, hf2.cells4 4 rfl⟩ (fun hHeld => ?_)
            clear hK K
            have hc := S012_0.out (W.heap.size, g1, g2) _ ⟨below_step hb hbl, blk_below k4 hbl, blk_below k2 hbl, Kd.R_below hp hbl, hf2⟩
            simp only [putAll, Act.put, List.setIfInBounds_toArray, List.set_cons_zero, List.set_cons_succ] at hc
            refine norm_ (a' := ?_) ?_ ?_
            rotate_left
            · show Act.put _ (some 44) _ = _
              simp only [Act.put, List.setIfInBounds_toArray, List.set_cons_zero, List.set_cons_succ, i64_w, i32_w]
              rfl
            exact hc
          · refine value_ (w1 := ?_) (v := ?_) (by rfl) rfl ?_ ?_
            rotate_left 2
            · go_simp
              constructor
              · rfl
              · rfl
            have hbl := below_alloc (Below.refl W.heap.size W) (Obj.cells #[.int .i64 m3] 3)
            have hf2 : Fam (W.alloc (Obj.cells #[.int .i64 m3] 3)) w.heap.size ([(.slice Ax0 x0.length cx0, x0), (.slice Ax1 x1.length cx1, x1), (.slice Ax2 x2.length cx2, x2), (.slice Ax3 x3.length cx3, x3), (.slice (some ⟨gl, 0, none⟩) 4 cl_, [m0, m1, m2, m3]), (.slice none 0 0, []), (.slice (some ⟨g1, 0, none⟩) 1 1, [m1]), (.slice (some ⟨g2, 0, none⟩) 1 1, [m2]), (.slice (some ⟨W.heap.size, 0, none⟩) 1 1, [m3])] : List (Value × List Int)) := hf.made hb.size 8 rfl m3
            refine hK.out _ _ ⟨blk_below k4 hbl, hf2.cells4 4 rfl⟩ (fun hHeld => ?_)
            clear hK K
            have hc := S123_0.out (g1, g2, W.heap.size) _ ⟨below_step hb hbl, blk_below k4 hbl, blk_below k2 hbl, Kd.R_below hp hbl, hf2⟩
            simp only [putAll, Act.put, List.setIfInBounds_toArray, List.set_cons_zero, List.set_cons_succ] at hc
            refine norm_ (a' := ?_) ?_ ?_
            rotate_left
            · show Act.put _ (some 65) _ = _
              simp only [Act.put, List.setIfInBounds_toArray, List.set_cons_zero, List.set_cons_succ, i64_w, i32_w]
              rfl
            exact hc
        intro H_
        have S12_0 := Aside0.mk H_
        clear H_
        refine join_ 14 #[true, true, true, true, true, false, false, true, true, true, true, true, true, false, true, true, true, true, true, false, false, true, true, true, true, true, true, false, false, false, false, false, false, false, false, false] (fun s : Nat × Nat => [(51, .slice (some ⟨s.1, 0, none⟩) 1 1), (65, .slice (some ⟨s.2, 0, none⟩) 1 1)]) (fun s W_ => Below w.heap.size w W_ ∧ W_.heap[G4]? = some (.cells #[.slice Ax0 x0.length cx0, .slice Ax1 x1.length cx1, .slice Ax2 x2.length cx2, .slice Ax3 x3.length cx3] 47 (0, 0)) ∧ W_.heap[G2]? = some (.cells #[.slice none 0 0, .slice none 0 0, .slice none 0 0, .slice none 0 0] 47 (0, 0)) ∧ Kd.string.R 9 W_ w4.heap.size (fun _ => True) (.slice (some ad) ws.length c5) ws ∧ Fam W_ w.heap.size ([(.slice Ax0 x0.length cx0, x0), (.slice Ax1 x1.length cx1, x1), (.slice Ax2 x2.length cx2, x2), (.slice Ax3 x3.length cx3, x3), (.slice (some ⟨gl, 0, none⟩) 4 cl_, [m0, m1, m2, m3]), (.slice none 0 0, []), (.slice (some ⟨s.1, 0, none⟩) 1 1, [m1]), (.slice none 0 0, []), (.slice (some ⟨s.2, 0, none⟩) 1 1, [m3])] : List (Value × List Int))) ?_ ?_
        · rintro ⟨g1, g3⟩ W ⟨hb, k4, k2, hp, hf⟩
          refine norm_ (a' := ?_) ?_ ?_
          rotate_left
          · show putAll _ _ = _
            simp only [putAll, Act.put, List.setIfInBounds_toArray, List.set_cons_zero, List.set_cons_succ, i64_w, i32_w]
            rfl
          refine two_ (i := 5) (j := 19) (Ni := some 44) (Nj := some 58) #[true, true, true, true, true, true, false, true, true, true, true, true, true, false, true, true, true, true, true, false, false, true, true, true, true, true, true, false, false, false, false, false, false, false, false, false] #[true, true, true, true, true, false, false, true, true, true, true, true, true, false, true, true, true, true, true, true, false, true, true, true, true, true, true, false, false, false, false, false, false, false, false, false] rfl rfl rfl rfl (two_of HT_.out (by kernel_rfl)) (by decide) (by decide) (fun K hK => ?_) (fun K hK => ?_)
          · refine value_ (w1 := ?_) (v := ?_) (by rfl) rfl ?_ ?_
            rotate_left 2
            · go_simp
              constructor
              · rfl
              · rfl
            have hbl := below_alloc (Below.refl W.heap.size W) (Obj.cells #[.int .i64 m0] 3)
            have hf2 : Fam (W.alloc (Obj.cells #[.int .i64 m0] 3)) w.heap.size ([(.slice Ax0 x0.length cx0, x0), (.slice Ax1 x1.length cx1, x1), (.slice Ax2 x2.length cx2, x2), (.slice Ax3 x3.length cx3, x3), (.slice (some ⟨gl, 0, none⟩) 4 cl_, [m0, m1, m2, m3]), (.slice (some ⟨W.heap.size, 0, none⟩) 1 1, [m0]), (.slice (some ⟨g1, 0, none⟩) 1 1, [m1]), (.slice none 0 0, []), (.slice (some ⟨g3, 0, none⟩) 1 1, [m3])] : List (Value × List Int)) := hf.made hb.size 5 rfl m0
            refine hK.out _ _ ⟨blk_below k4 hbl, hf2.cells4 4 rfl⟩ (fun hHeld => ?_)
            clear hK K
            have hc := S013_0.out (W.heap.size, g1, g3) _ ⟨below_step hb hbl, blk_below k4 hbl, blk_below k2 hbl, Kd.R_below hp hbl, hf2⟩
            simp only [putAll, Act.put, List.setIfInBounds_toArray, List.set_cons_zero, List.set_cons_succ] at hc
            refine norm_ (a' := ?_) ?_ ?_
            rotate_left
            · show Act.put _ (some 44) _ = _
              simp only [Act.put, List.setIfInBounds_toArray, List.set_cons_zero, List.set_cons_succ, i64_w, i32_w]
              rfl
            exact hc
          · refine value_ (w1 := ?_) (v := ?_) (by rfl) rfl ?_ ?_
            rotate_left 2
            · go_simp
              constructor
              · rfl
              · rfl
            have hbl := below_alloc (Below.refl W.heap.size W) (Obj.cells #[.int .i64 m2] 3)
            have hf2 : Fam (W.alloc (Obj.cells #[.int .i64 m2] 3)) w.heap.size ([(.slice Ax0 x0.length cx0, x0), (.slice Ax1 x1.length cx1, x1), (.slice Ax2 x2.length cx2, x2), (.slice Ax3 x3.length cx3, x3), (.slice (some ⟨gl, 0, none⟩) 4 cl_, [m0, m1, m2, m3]), (.slice none 0 0, []), (.slice (some ⟨g1, 0, none⟩) 1 1, [m1]), (.slice (some ⟨W.heap.size, 0, none⟩) 1 1, [m2]), (.slice (some ⟨g3, 0, none⟩) 1 1, [m3])] : List (Value × List Int)) := hf.made hb.size 7 rfl m2
            refine hK.out _ _ ⟨blk_below k4 hbl, hf2.cells4 4 rfl⟩ (fun hHeld => ?_)
            clear hK K
            have hc := S123_0.out (g1, W.heap.size, g3) _ ⟨below_step hb hbl, blk_below k4 hbl, blk_below k2 hbl, Kd.R_below hp hbl, hf2⟩
            simp only [putAll, Act.put, List.setIfInBounds_toArray, List.set_cons_zero, List.set_cons_succ] at hc
            refine norm_ (a' := ?_) ?_ ?_
            rotate_left
            · show Act.put _ (some 58) _ = _
              simp only [Act.put, List.setIfInBounds_toArray, List.set_cons_zero, List.set_cons_succ, i64_w, i32_w]
              rfl
            exact hc
        intro H_
        have S13_0 := Aside0.mk H_
        clear H_
        refine join_ 14 #[true, true, true, true, true, false, false, true, true, true, true, true, false, false, true, true, true, true, true, true, false, true, true, true, true, true, true, false, false, false, false, false, false, false, false, false] (fun s : Nat × Nat => [(58, .slice (some ⟨s.1, 0, none⟩) 1 1), (65, .slice (some ⟨s.2, 0, none⟩) 1 1)]) (fun s W_ => Below w.heap.size w W_ ∧ W_.heap[G4]? = some (.cells #[.slice Ax0 x0.length cx0, .slice Ax1 x1.length cx1, .slice Ax2 x2.length cx2, .slice Ax3 x3.length cx3] 47 (0, 0)) ∧ W_.heap[G2]? = some (.cells #[.slice none 0 0, .slice none 0 0, .slice none 0 0, .slice none 0 0] 47 (0, 0)) ∧ Kd.string.R 9 W_ w4.heap.size (fun _ => True) (.slice (some ad) ws.length c5) ws ∧ Fam W_ w.heap.size ([(.slice Ax0 x0.length cx0, x0), (.slice Ax1 x1.length cx1, x1), (.slice Ax2 x2.length cx2, x2), (.slice Ax3 x3.length cx3, x3), (.slice (some ⟨gl, 0, none⟩) 4 cl_, [m0, m1, m2, m3]), (.slice none 0 0, []), (.slice none 0 0, []), (.slice (some ⟨s.1, 0, none⟩) 1 1, [m2]), (.slice (some ⟨s.2, 0, none⟩) 1 1, [m3])] : List (Value × List Int))) ?_ ?_
        · rintro ⟨g2, g3⟩ W ⟨hb, k4, k2, hp, hf⟩
          refine norm_ (a' := ?_) ?_ ?_
          rotate_left
          · show putAll _ _ = _
            simp only [putAll, Act.put, List.setIfInBounds_toArray, List.set_cons_zero, List.set_cons_succ, i64_w, i32_w]
            rfl
          refine two_ (i := 5) (j := 12) (Ni := some 44) (Nj := some 51) #[true, true, true, true, true, true, false, true, true, true, true, true, false, false, true, true, true, true, true, true, false, true, true, true, true, true, true, false, false, false, false, false, false, false, false, false] #[true, true, true, true, true, false, false, true, true, true, true, true, true, false, true, true, true, true, true, true, false, true, true, true, true, true, true, false, false, false, false, false, false, false, false, false] rfl rfl rfl rfl (two_of HT_.out (by kernel_rfl)) (by decide) (by decide) (fun K hK => ?_) (fun K hK => ?_)
          · refine value_ (w1 := ?_) (v := ?_) (by rfl) rfl ?_ ?_
            rotate_left 2
            · go_simp
              constructor
              · rfl
              · rfl
            have hbl := below_alloc (Below.refl W.heap.size W) (Obj.cells #[.int .i64 m0] 3)
            have hf2 : Fam (W.alloc (Obj.cells #[.int .i64 m0] 3)) w.heap.size ([(.slice Ax0 x0.length cx0, x0), (.slice Ax1 x1.length cx1, x1), (.slice Ax2 x2.length cx2, x2), (.slice Ax3 x3.length cx3, x3), (.slice (some ⟨gl, 0, none⟩) 4 cl_, [m0, m1, m2, m3]), (.slice (some ⟨W.heap.size, 0, none⟩) 1 1, [m0]), (.slice none 0 0, []), (.slice (some ⟨g2, 0, none⟩) 1 1, [m2]), (.slice (some ⟨g3, 0, none⟩) 1 1, [m3])] : List (Value × List Int)) := hf.made hb.size 5 rfl m0
            refine hK.out _ _ ⟨blk_below k4 hbl, hf2.cells4 4 rfl⟩ (fun hHeld => ?_)
            clear hK K
            have hc := S023_0.out (W.heap.size, g2, g3) _ ⟨below_step hb hbl, blk_below k4 hbl, blk_below k2 hbl, Kd.R_below hp hbl, hf2⟩
            simp only [putAll, Act.put, List.setIfInBounds_toArray, List.set_cons_zero, List.set_cons_succ] at hc
            refine norm_ (a' := ?_) ?_ ?_
            rotate_left
            · show Act.put _ (some 44) _ = _
              simp only [Act.put, List.setIfInBounds_toArray, List.set_cons_zero, List.set_cons_succ, i64_w, i32_w]
              rfl
            exact hc
          · refine value_ (w1 := ?_) (v := ?_) (by rfl) rfl ?_ ?_
            rotate_left 2
            · go_simp
              constructor
              · rfl
              · rfl
            have hbl := below_alloc (Below.refl W.heap.size W) (Obj.cells #[.int .i64 m1] 3)
            have hf2 : Fam (W.alloc (Obj.cells #[.int .i64 m1] 3)) w.heap.size ([(.slice Ax0 x0.length cx0, x0), (.slice Ax1 x1.length cx1, x1), (.slice Ax2 x2.length cx2, x2), (.slice Ax3 x3.length cx3, x3), (.slice (some ⟨gl, 0, none⟩) 4 cl_, [m0, m1, m2, m3]), (.slice none 0 0, []), (.slice (some ⟨W.heap.size, 0, none⟩) 1 1, [m1]), (.slice (some ⟨g2, 0, none⟩) 1 1, [m2]), (.slice (some ⟨g3, 0, none⟩) 1 1, [m3])] : List (Value × List Int)) := hf.made hb.size 6 rfl m1
            refine hK.out _ _ ⟨blk_below k4 hbl, hf2.cells4 4 rfl⟩ (fun hHeld => ?_)
            clear hK K
            have hc := S123_0.out (W.heap.size, g2, g3) _ ⟨below_step hb hbl, blk_below k4 hbl, blk_below k2 hbl, Kd.R_below hp hbl, hf2⟩
            simp only [putAll, Act.put, List.setIfInBounds_toArray, List.set_cons_zero, List.set_cons_succ] at hc
            refine norm_ (a' := ?_) ?_ ?_
            rotate_left
            · show Act.put _ (some 51) _ = _
              simp only [Act.put, List.setIfInBounds_toArray, List.set_cons_zero, List.set_cons_succ, i64_w, i32_w]
              rfl
            exact hc
        intro H_
        have S23_0 := Aside0.mk H_
        clear H_
        refine join_ 15 #[true, true, true, true, true, true, false, true, true, true, true, true, false, false, true, true, true, true, true, false, false, true, true, true, true, true, false, false, false, false, false, false, false, false, false, false] (fun s : Nat => [(44, .slice (some ⟨s, 0, none⟩) 1 1)]) (fun s W_ => Below w.heap.size w W_ ∧ W_.heap[G4]? = some (.cells #[.slice Ax0 x0.length cx0, .slice Ax1 x1.length cx1, .slice Ax2 x2.length cx2, .slice Ax3 x3.length cx3] 47 (0, 0)) ∧ W_.heap[G2]? = some (.cells #[.slice none 0 0, .slice none 0 0, .slice none 0 0, .slice none 0 0] 47 (0, 0)) ∧ Kd.string.R 9 W_ w4.heap.size (fun _ => True) (.slice (some ad) ws.length c5) ws ∧ Fam W_ w.heap.size ([(.slice Ax0 x0.length cx0, x0), (.slice Ax1 x1.length cx1, x1), (.slice Ax2 x2.length cx2, x2), (.slice Ax3 x3.length cx3, x3), (.slice (some ⟨gl, 0, none⟩) 4 cl_, [m0, m1, m2, m3]), (.slice (some ⟨s, 0, none⟩) 1 1, [m0]), (.slice none 0 0, []), (.slice none 0 0, []), (.slice none 0 0, [])] : List (Value × List Int))) ?_ ?_
        · rintro g0 W ⟨hb, k4, k2, hp, hf⟩
          refine norm_ (a' := ?_) ?_ ?_
          rotate_left
          · show putAll _ _ = _
            simp only [putAll, Act.put, List.setIfInBounds_toArray, List.set_cons_zero, List.set_cons_succ, i64_w, i32_w]
            rfl
          refine four_ (i := 6) (j := 12) (k := 19) (m := 26) (Ni := some 45) (Nj := some 51) (Nk := some 58) (Nm := some 65) #[true, true, true, true, true, true, true, true, true, true, true, true, false, false, true, true, true, true, true, false, false, true, true, true, true, true, false, false, false, false, false, false, false, false, false, false] #[true, true, true, true, true, true, false, true, true, true, true, true, true, false, true, true, true, true, true, false, false, true, true, true, true, true, false, false, false, false, false, false, false, false, false, false] #[true, true, true, true, true, true, false, true, true, true, true, true, false, false, true, true, true, true, true, true, false, true, true, true, true, true, false, false, false, false, false, false, false, false, false, false] #[true, true, true, true, true, true, false, true, true, true, true, true, false, false, true, true, true, true, true, false, false, true, true, true, true, true, true, false, false, false, false, false, false, false, false, false] rfl rfl rfl rfl rfl rfl rfl rfl (four_of HT_.out (by kernel_rfl)) (by decide) (by decide) (by decide) (by decide) (fun K hK => ?_) (fun K hK => ?_) (fun K hK => ?_) (fun K hK => ?_)
          · refine Kd.R_append_rows_step (Kd.int .i64) (Rr := (Kd.int .i64).K W) (w0 := w) w.heap.size (by rfl) (.tmp 40) (.tmp 44) 45 3 (.int .i64 0) 8 rfl Tryd.underlying45 info3 rfl (by decide) (by omega) (.slice Ax0 x0.length cx0) x0 [m0] (some ⟨g0, 0, none⟩) 1 1 (fun _ => True) (fun _ => False) (by rfl) (by rfl) (hf.get 0 rfl) (Kd.R_reads' (hf.get 5 rfl)).2.2 (fun _ _ h_ => h_) (fun _ h_ => h_.elim) (fun _ _ => trivial) hb hb.size (by have := HL.out; omega) ?_
            intro v0 W2 ho hb2 hg hat
            rw [← NY0.out] at ho
            have hf2 : Fam W2 w.heap.size ([(v0, y0), (.slice Ax1 x1.length cx1, x1), (.slice Ax2 x2.length cx2, x2), (.slice Ax3 x3.length cx3, x3), (.slice (some ⟨gl, 0, none⟩) 4 cl_, [m0, m1, m2, m3]), (.slice (some ⟨g0, 0, none⟩) 1 1, [m0]), (.slice none 0 0, []), (.slice none 0 0, []), (.slice none 0 0, [])] : List (Value × List Int)) := hf.replace 0 rfl ho hg hat
            have k42 := blk_grown k4 hg (Kd.R_ne (hf.get 0 rfl) k4 (by decide))
            have k22 := blk_grown k2 hg (Kd.R_ne (hf.get 0 rfl) k2 (by decide))
            have hp2 := Kd.R_over' hp (Kd.R_typed (hf.get 0 rfl)) (by decide) hg
            refine hK.out _ _ ⟨k42, hf2.cells4 4 rfl⟩ (fun hHeld => ?_)
            clear hK K
            have hc := S0_1.out (g0, v0) _ ⟨hb2, k42, k22, hp2, hf2⟩
            simp only [putAll, Act.put, List.setIfInBounds_toArray, List.set_cons_zero, List.set_cons_succ] at hc
            refine norm_ (a' := ?_) ?_ ?_
            rotate_left
            · show Act.put _ (some 45) _ = _
              simp only [Act.put, List.setIfInBounds_toArray, List.set_cons_zero, List.set_cons_succ, i64_w, i32_w]
              rfl
            refine pure_ (i := 28) (N := some 67) (v := ?_) (a' := ?_) #[true, true, true, true, true, true, true, true, true, true, true, true, false, false, true, true, true, true, true, false, false, true, true, true, true, true, false, false, true, false, false, false, false, false, false, false] rfl rfl (any_of HT_.out (by kernel_rfl)) (fun _ _ _ h => h) (Or.inl ⟨by rfl, ?_⟩) ?_ ?_
            rotate_left
            · intro w'
              go_simp
              with_reducible rfl
            rotate_left
            · simp only [Act.put, List.setIfInBounds_toArray, List.set_cons_zero, List.set_cons_succ, i64_w, i32_w]
              rfl
            exact hc
          · refine value_ (w1 := ?_) (v := ?_) (by rfl) rfl ?_ ?_
            rotate_left 2
            · go_simp
              constructor
              · rfl
              · rfl
            have hbl := below_alloc (Below.refl W.heap.size W) (Obj.cells #[.int .i64 m1] 3)
            have hf2 : Fam (W.alloc (Obj.cells #[.int .i64 m1] 3)) w.heap.size ([(.slice Ax0 x0.length cx0, x0), (.slice Ax1 x1.length cx1, x1), (.slice Ax2 x2.length cx2, x2), (.slice Ax3 x3.length cx3, x3), (.slice (some ⟨gl, 0, none⟩) 4 cl_, [m0, m1, m2, m3]), (.slice (some ⟨g0, 0, none⟩) 1 1, [m0]), (.slice (some ⟨W.heap.size, 0, none⟩) 1 1, [m1]), (.slice none 0 0, []), (.slice none 0 0, [])] : List (Value × List Int)) := hf.made hb.size 6 rfl m1
            refine hK.out _ _ ⟨blk_below k4 hbl, hf2.cells4 4 rfl⟩ (fun hHeld => ?_)
            clear hK K
            have hc := S01_0.out (g0, W.heap.size) _ ⟨below_step hb hbl, blk_below k4 hbl, blk_below k2 hbl, Kd.R_below hp hbl, hf2⟩
            simp only [putAll, Act.put, List.setIfInBounds_toArray, List.set_cons_zero, List.set_cons_succ] at hc
            refine norm_ (a' := ?_) ?_ ?_
            rotate_left
            · show Act.put _ (some 51) _ = _
              simp only [Act.put, List.setIfInBounds_toArray, List.set_cons_zero, List.set_cons_succ, i64_w, i32_w]
              rfl
            exact hc
          · refine value_ (w1 := ?_) (v := ?_) (by rfl) rfl ?_ ?_
            rotate_left 2
            · go_simp
              constructor
              · rfl
              · rfl
            have hbl := below_alloc (Below.refl W.heap.size W) (Obj.cells #[.int .i64 m2] 3)
            have hf2 : Fam (W.alloc (Obj.cells #[.int .i64 m2] 3)) w.heap.size ([(.slice Ax0 x0.length cx0, x0), (.slice Ax1 x1.length cx1, x1), (.slice Ax2 x2.length cx2, x2), (.slice Ax3 x3.length cx3, x3), (.slice (some ⟨gl, 0, none⟩) 4 cl_, [m0, m1, m2, m3]), (.slice (some ⟨g0, 0, none⟩) 1 1, [m0]), (.slice none 0 0, []), (.slice (some ⟨W.heap.size, 0, none⟩) 1 1, [m2]), (.slice none 0 0, [])] : List (Value × List Int)) := hf.made hb.size 7 rfl m2
            refine hK.out _ _ ⟨blk_below k4 hbl, hf2.cells4 4 rfl⟩ (fun hHeld => ?_)
            clear hK K
            have hc := S02_0.out (g0, W.heap.size) _ ⟨below_step hb hbl, blk_below k4 hbl, blk_below k2 hbl, Kd.R_below hp hbl, hf2⟩
            simp only [putAll, Act.put, List.setIfInBounds_toArray, List.set_cons_zero, List.set_cons_succ] at hc
            refine norm_ (a' := ?_) ?_ ?_
            rotate_left
            · show Act.put _ (some 58) _ = _
              simp only [Act.put, List.setIfInBounds_toArray, List.set_cons_zero, List.set_cons_succ, i64_w, i32_w]
              rfl
            exact hc
          · refine value_ (w1 := ?_) (v := ?_) (by rfl) rfl ?_ ?_
            rotate_left 2
            · go_simp
              constructor
              · rfl
              · rfl
            have hbl := below_alloc (Below.refl W.heap.size W) (Obj.cells #[.int .i64 m3] 3)
            have hf2 : Fam (W.alloc (Obj.cells #[.int .i64 m3] 3)) w.heap.size ([(.slice Ax0 x0.length cx0, x0), (.slice Ax1 x1.length cx1, x1), (.slice Ax2 x2.length cx2, x2), (.slice Ax3 x3.length cx3, x3), (.slice (some ⟨gl, 0, none⟩) 4 cl_, [m0, m1, m2, m3]), (.slice (some ⟨g0, 0, none⟩) 1 1, [m0]), (.slice none 0 0, []), (.slice none 0 0, []), (.slice (some ⟨W.heap.size, 0, none⟩) 1 1, [m3])] : List (Value × List Int)) := hf.made hb.size 8 rfl m3
            refine hK.out _ _ ⟨blk_below k4 hbl, hf2.cells4 4 rfl⟩ (fun hHeld => ?_)
            clear hK K
            have hc := S03_0.out (g0, W.heap.size) _ ⟨below_step hb hbl, blk_below k4 hbl, blk_below k2 hbl, Kd.R_below hp hbl, hf2⟩
            simp only [putAll, Act.put, List.setIfInBounds_toArray, List.set_cons_zero, List.set_cons_succ] at hc
            refine norm_ (a' := ?_) ?_ ?_
            rotate_left
            · show Act.put _ (some 65) _ = _
              simp only [Act.put, List.setIfInBounds_toArray, List.set_cons_zero, List.set_cons_succ, i64_w, i32_w]
              rfl
            exact hc
        intro H_
        have S0_0 := Aside0.mk H_
        clear H_
        refine join_ 15 #[true, true, true, true, true, false, false, true, true, true, true, true, true, false, true, true, true, true, true, false, false, true, true, true, true, true, false, false, false, false, false, false, false, false, false, false] (fun s : Nat => [(51, .slice (some ⟨s, 0, none⟩) 1 1)]) (fun s W_ => Below w.heap.size w W_ ∧ W_.heap[G4]? = some (.cells #[.slice Ax0 x0.length cx0, .slice Ax1 x1.length cx1, .slice Ax2 x2.length cx2, .slice Ax3 x3.length cx3] 47 (0, 0)) ∧ W_.heap[G2]? = some (.cells #[.slice none 0 0, .slice none 0 0, .slice none 0 0, .slice none 0 0] 47 (0, 0)) ∧ Kd.string.R 9 W_ w4.heap.size (fun _ => True) (.slice (some ad) ws.length c5) ws ∧ Fam W_ w.heap.size ([(.slice Ax0 x0.length cx0, x0), (.slice Ax1 x1.length cx1, x1), (.slice Ax2 x2.length cx2, x2), (.slice Ax3 x3.length cx3, x3), (.slice (some ⟨gl, 0, none⟩) 4 cl_, [m0, m1, m2, m3]), (.slice none 0 0, []), (.slice (some ⟨s, 0, none⟩) 1 1, [m1]), (.slice none 0 0, []), (.slice none 0 0, [])] : List (Value × List Int))) ?_ ?_
        · rintro g1 W ⟨hb, k4, k2, hp, hf⟩
          refine norm_ (a' := ?_) ?_ ?_
          rotate_left
          · show putAll _ _ = _
            simp only [putAll, Act.put, List.setIfInBounds_toArray, List.set_cons_zero, List.set_cons_succ, i64_w, i32_w]
            rfl
          refine three_ (i := 5) (j := 19) (k := 26) (Ni := some 44) (Nj := some 58) (Nk := some 65) #[true, true, true, true, true, true, false, true, true, true, true, true, true, false, true, true, true, true, true, false, false, true, true, true, true, true, false, false, false, false, false, false, false, false, false, false] #[true, true, true, true, true, false, false, true, true, true, true, true, true, false, true, true, true, true, true, true, false, true, true, true, true, true, false, false, false, false, false, false, false, false, false, false] #[true, true, true, true, true, false, false, true, true, true, true, true, true, false, true, true, true, true, true, false, false, true, true, true, true, true, true, false, false, false, false, false, false, false, false, false] rfl rfl rfl rfl rfl rfl (three_of HT_.out (by kernel_rfl)) (by decide) (by decide) (by decide) (fun K hK => ?_) (fun K hK => ?_) (fun K hK => ?_)
          · refine value_ (w1 := ?_) (v := ?_) (by rfl) rfl ?_ ?_
            rotate_left 2
            · go_simp
              constructor
              · rfl
              · rfl
            have hbl := below_alloc (Below.refl W.heap.size W) (Obj.cells #[.int .i64 m0] 3)
            have hf2 : Fam (W.alloc (Obj.cells #[.int .i64 m0] 3)) w.heap.size ([(.slice Ax0 x0.length cx0, x0), (.slice Ax1 x1.length cx1, x1), (.slice Ax2 x2.length cx2, x2), (.slice Ax3 x3.length cx3, x3), (.slice (some ⟨gl, 0, none⟩) 4 cl_, [m0, m1, m2, m3]), (.slice (some ⟨W.heap.size, 0, none⟩) 1 1, [m0]), (.slice (some ⟨g1, 0, none⟩) 1 1, [m1]), (.slice none 0 0, []), (.slice none 0 0, [])] : List (Value × List Int)) := hf.made hb.size 5 rfl m0
            refine hK.out _ _ ⟨blk_below k4 hbl, hf2.cells4 4 rfl⟩ (fun hHeld => ?_)
            clear hK K
            have hc := S01_0.out (W.heap.size, g1) _ ⟨below_step hb hbl, blk_below k4 hbl, blk_below k2 hbl, Kd.R_below hp hbl, hf2⟩
            simp only [putAll, Act.put, List.setIfInBounds_toArray, List.set_cons_zero, List.set_cons_succ] at hc
            refine norm_ (a' := ?_) ?_ ?_
            rotate_left
            · show Act.put _ (some 44) _ = _
              simp only [Act.put, List.setIfInBounds_toArray, List.set_cons_zero, List.set_cons_succ, i64_w, i32_w]
              rfl
            exact hc
          · refine value_ (w1 := ?_) (v := ?_) (by rfl) rfl ?_ ?_
            rotate_left 2
            · go_simp
              constructor
              · rfl
              · rfl
            have hbl := below_alloc (Below.refl W.heap.size W) (Obj.cells #[.int .i64 m2] 3)
            have hf2 : Fam (W.alloc (Obj.cells #[.int .i64 m2] 3)) w.heap.size ([(.slice Ax0 x0.length cx0, x0), (.slice Ax1 x1.length cx1, x1), (.slice Ax2 x2.length cx2, x2), (.slice Ax3 x3.length cx3, x3), (.slice (some ⟨gl, 0, none⟩) 4 cl_, [m0, m1, m2, m3]), (.slice none 0 0, []), (.slice (some ⟨g1, 0, none⟩) 1 1, [m1]), (.slice (some ⟨W.heap.size, 0, none⟩) 1 1, [m2]), (.slice none 0 0, [])] : List (Value × List Int)) := hf.made hb.size 7 rfl m2
            refine hK.out _ _ ⟨blk_below k4 hbl, hf2.cells4 4 rfl⟩ (fun hHeld => ?_)
            clear hK K
            have hc := S12_0.out (g1, W.heap.size) _ ⟨below_step hb hbl, blk_below k4 hbl, blk_below k2 hbl, Kd.R_below hp hbl, hf2⟩
            simp only [putAll, Act.put, List.setIfInBounds_toArray, List.set_cons_zero, List.set_cons_succ] at hc
            refine norm_ (a' := ?_) ?_ ?_
            rotate_left
            · show Act.put _ (some 58) _ = _
              simp only [Act.put, List.setIfInBounds_toArray, List.set_cons_zero, List.set_cons_succ, i64_w, i32_w]
              rfl
            exact hc
          · refine value_ (w1 := ?_) (v := ?_) (by rfl) rfl ?_ ?_
            rotate_left 2
            · go_simp
              constructor
              · rfl
              · rfl
            have hbl := below_alloc (Below.refl W.heap.size W) (Obj.cells #[.int .i64 m3] 3)
            have hf2 : Fam (W.alloc (Obj.cells #[.int .i64 m3] 3)) w.heap.size ([(.slice Ax0 x0.length cx0, x0), (.slice Ax1 x1.length cx1, x1), (.slice Ax2 x2.length cx2, x2), (.slice Ax3 x3.length cx3, x3), (.slice (some ⟨gl, 0, none⟩) 4 cl_, [m0, m1, m2, m3]), (.slice none 0 0, []), (.slice (some ⟨g1, 0, none⟩) 1 1, [m1]), (.slice none 0 0, []), (.slice (some ⟨W.heap.size, 0, none⟩) 1 1, [m3])] : List (Value × List Int)) := hf.made hb.size 8 rfl m3
            refine hK.out _ _ ⟨blk_below k4 hbl, hf2.cells4 4 rfl⟩ (fun hHeld => ?_)
            clear hK K
            have hc := S13_0.out (g1, W.heap.size) _ ⟨below_step hb hbl, blk_below k4 hbl, blk_below k2 hbl, Kd.R_below hp hbl, hf2⟩
            simp only [putAll, Act.put, List.setIfInBounds_toArray, List.set_cons_zero, List.set_cons_succ] at hc
            refine norm_ (a' := ?_) ?_ ?_
            rotate_left
            · show Act.put _ (some 65) _ = _
              simp only [Act.put, List.setIfInBounds_toArray, List.set_cons_zero, List.set_cons_succ, i64_w, i32_w]
              rfl
            exact hc
        intro H_
        have S1_0 := Aside0.mk H_
        clear H_
        refine join_ 15 #[true, true, true, true, true, false, false, true, true, true, true, true, false, false, true, true, true, true, true, true, false, true, true, true, true, true, false, false, false, false, false, false, false, false, false, false] (fun s : Nat => [(58, .slice (some ⟨s, 0, none⟩) 1 1)]) (fun s W_ => Below w.heap.size w W_ ∧ W_.heap[G4]? = some (.cells #[.slice Ax0 x0.length cx0, .slice Ax1 x1.length cx1, .slice Ax2 x2.length cx2, .slice Ax3 x3.length cx3] 47 (0, 0)) ∧ W_.heap[G2]? = some (.cells #[.slice none 0 0, .slice none 0 0, .slice none 0 0, .slice none 0 0] 47 (0, 0)) ∧ Kd.string.R 9 W_ w4.heap.size (fun _ => True) (.slice (some ad) ws.length c5) ws ∧ Fam W_ w.heap.size ([(.slice Ax0 x0.length cx0, x0), (.slice Ax1 x1.length cx1, x1), (.slice Ax2 x2.length cx2, x2), (.slice Ax3 x3.length cx3, x3), (.slice (some ⟨gl, 0, none⟩) 4 cl_, [m0, m1, m2, m3]), (.slice none 0 0, []), (.slice none 0 0, []), (.slice (some ⟨s, 0, none⟩) 1 1, [m2]), (.slice none 0 0, [])] : List (Value × List Int))) ?_ ?_
        · rintro g2 W ⟨hb, k4, k2, hp, hf⟩
          refine norm_ (a' := ?_) ?_ ?_
          rotate_left
          · show putAll _ _ = _
            simp only [putAll, Act.put, List.setIfInBounds_toArray, List.set_cons_zero, List.set_cons_succ, i64_w, i32_w]
            rfl
          refine three_ (i := 5) (j := 12) (k := 26) (Ni := some 44) (Nj := some 51) (Nk := some 65) #[true, true, true, true, true, true, false, true, true, true, true, true, false, false, true, true, true, true, true, true, false, true, true, true, true, true, false, false, false, false, false, false, false, false, false, false] #[true, true, true, true, true, false, false, true, true, true, true, true, true, false, true, true, true, true, true, true, false, true, true, true, true, true, false, false, false, false, false, false, false, false, false, false] #[true, true, true, true, true, false, false, true, true, true, true, true, false, false, true, true, true, true, true, true, false, true, true, true, true, true, true, false, false, false, false, false, false, false, false, false] rfl rfl rfl rfl rfl rfl (three_of HT_.out (by kernel_rfl)) (by decide) (by decide) (by decide) (fun K hK => ?_) (fun K hK => ?_) (fun K hK => ?_)
          · refine value_ (w1 := ?_) (v := ?_) (by rfl) rfl ?_ ?_
            rotate_left 2
            · go_simp
              constructor
              · rfl
              · rfl
            have hbl := below_alloc (Below.refl W.heap.size W) (Obj.cells #[.int .i64 m0] 3)
            have hf2 : Fam (W.alloc (Obj.cells #[.int .i64 m0] 3)) w.heap.size ([(.slice Ax0 x0.length cx0, x0), (.slice Ax1 x1.length cx1, x1), (.slice Ax2 x2.length cx2, x2), (.slice Ax3 x3.length cx3, x3), (.slice (some ⟨gl, 0, none⟩) 4 cl_, [m0, m1, m2, m3]), (.slice (some ⟨W.heap.size, 0, none⟩) 1 1, [m0]), (.slice none 0 0, []), (.slice (some ⟨g2, 0, none⟩) 1 1, [m2]), (.slice none 0 0, [])] : List (Value × List Int)) := hf.made hb.size 5 rfl m0
            refine hK.out _ _ ⟨blk_below k4 hbl, hf2.cells4 4 rfl⟩ (fun hHeld => ?_)
            clear hK K
            have hc := S02_0.out (W.heap.size, g2) _ ⟨below_step hb hbl, blk_below k4 hbl, blk_below k2 hbl, Kd.R_below hp hbl, hf2⟩
            simp only [putAll, Act.put, List.setIfInBounds_toArray, List.set_cons_zero, List.set_cons_succ] at hc
            refine norm_ (a' := ?_) ?_ ?_
            rotate_left
            · show Act.put _ (some 44) _ = _
              simp only [Act.put, List.setIfInBounds_toArray, List.set_cons_zero, List.set_cons_succ, i64_w, i32_w]
              rfl
            exact hc
          · refine value_ (w1 := ?_) (v := ?_) (by rfl) rfl ?_ ?_
            rotate_left 2
            · go_simp
              constructor
              · rfl
              · rfl
            have hbl := below_alloc (Below.refl W.heap.size W) (Obj.cells #[.int .i64 m1] 3)
            have hf2 : Fam (W.alloc (Obj.cells #[.int .i64 m1] 3)) w.heap.size ([(.slice Ax0 x0.length cx0, x0), (.slice Ax1 x1.length cx1, x1), (.slice Ax2 x2.length cx2, x2), (.slice Ax3 x3.length cx3, x3), (.slice (some ⟨gl, 0, none⟩) 4 cl_, [m0, m1, m2, m3]), (.slice none 0 0, []), (.slice (some ⟨W.heap.size, 0, none⟩) 1 1, [m1]), (.slice (some ⟨g2, 0, none⟩) 1 1, [m2]), (.slice none 0 0, [])] : List (Value × List Int)) := hf.made hb.size 6 rfl m1
            refine hK.out _ _ ⟨blk_below k4 hbl, hf2.cells4 4 rfl⟩ (fun hHeld => ?_)
            clear hK K
            have hc := S12_0.out (W.heap.size, g2) _ ⟨below_step hb hbl, blk_below k4 hbl, blk_below k2 hbl, Kd.R_below hp hbl, hf2⟩
            simp only [putAll, Act.put, List.setIfInBounds_toArray, List.set_cons_zero, List.set_cons_succ] at hc
            refine norm_ (a' := ?_) ?_ ?_
            rotate_left
            · show Act.put _ (some 51) _ = _
              simp only [Act.put, List.setIfInBounds_toArray, List.set_cons_zero, List.set_cons_succ, i64_w, i32_w]
              rfl
            exact hc
          · refine value_ (w1 := ?_) (v := ?_) (by rfl) rfl ?_ ?_
            rotate_left 2
            · go_simp
              constructor
              · rfl
              · rfl
            have hbl := below_alloc (Below.refl W.heap.size W) (Obj.cells #[.int .i64 m3] 3)
            have hf2 : Fam (W.alloc (Obj.cells #[.int .i64 m3] 3)) w.heap.size ([(.slice Ax0 x0.length cx0, x0), (.slice Ax1 x1.length cx1, x1), (.slice Ax2 x2.length cx2, x2), (.slice Ax3 x3.length cx3, x3), (.slice (some ⟨gl, 0, none⟩) 4 cl_, [m0, m1, m2, m3]), (.slice none 0 0, []), (.slice none 0 0, []), (.slice (some ⟨g2, 0, none⟩) 1 1, [m2]), (.slice (some ⟨W.heap.size, 0, none⟩) 1 1, [m3])] : List (Value × List Int)) := hf.made hb.size 8 rfl m3
            refine hK.out _ _ ⟨blk_below k4 hbl, hf2.cells4 4 rfl⟩ (fun hHeld => ?_)
            clear hK K
            have hc := S23_0.out (g2, W.heap.size) _ ⟨below_step hb hbl, blk_below k4 hbl, blk_below k2 hbl, Kd.R_below hp hbl, hf2⟩
            simp only [putAll, Act.put, List.setIfInBounds_toArray, List.set_cons_zero, List.set_cons_succ] at hc
            refine norm_ (a' := ?_) ?_ ?_
            rotate_left
            · show Act.put _ (some 65) _ = _
              simp only [Act.put, List.setIfInBounds_toArray, List.set_cons_zero, List.set_cons_succ, i64_w, i32_w]
              rfl
            exact hc
        intro H_
        have S2_0 := Aside0.mk H_
        clear H_
        refine join_ 15 #[true, true, true, true, true, false, false, true, true, true, true, true, false, false, true, true, true, true, true, false, false, true, true, true, true, true, true, false, false, false, false, false, false, false, false, false] (fun s : Nat => [(65, .slice (some ⟨s, 0, none⟩) 1 1)]) (fun s W_ => Below w.heap.size w W_ ∧ W_.heap[G4]? = some (.cells #[.slice Ax0 x0.length cx0, .slice Ax1 x1.length cx1, .slice Ax2 x2.length cx2, .slice Ax3 x3.length cx3] 47 (0, 0)) ∧ W_.heap[G2]? = some (.cells #[.slice none 0 0, .slice none 0 0, .slice none 0 0, .slice none 0 0] 47 (0, 0)) ∧ Kd.string.R 9 W_ w4.heap.size (fun _ => True) (.slice (some ad) ws.length c5) ws ∧ Fam W_ w.heap.size ([(.slice Ax0 x0.length cx0, x0), (.slice Ax1 x1.length cx1, x1), (.slice Ax2 x2.length cx2, x2), (.slice Ax3 x3.length cx3, x3), (.slice (some ⟨gl, 0, none⟩) 4 cl_, [m0, m1, m2, m3]), (.slice none 0 0, []), (.slice none 0 0, []), (.slice none 0 0, []), (.slice (some ⟨s, 0, none⟩) 1 1, [m3])] : List (Value × List Int))) ?_ ?_
        · rintro g3 W ⟨hb, k4, k2, hp, hf⟩
          refine norm_ (a' := ?_) ?_ ?_
          rotate_left
          · show putAll _ _ = _
            simp only [putAll, Act.put, List.setIfInBounds_toArray, List.set_cons_zero, List.set_cons_succ, i64_w, i32_w]
            rfl
          refine three_ (i := 5) (j := 12) (k := 19) (Ni := some 44) (Nj := some 51) (Nk := some 58) #[true, true, true, true, true, true, false, true, true, true, true, true, false, false, true, true, true, true, true, false, false, true, true, true, true, true, true, false, false, false, false, false, false, false, false, false] #[true, true, true, true, true, false, false, true, true, true, true, true, true, false, true, true, true, true, true, false, false, true, true, true, true, true, true, false, false, false, false, false, false, false, false, false] #[true, true, true, true, true, false, false, true, true, true, true, true, false, false, true, true, true, true, true, true, false, true, true, true, true, true, true, false, false, false, false, false, false, false, false, false] rfl rfl rfl rfl rfl rfl (three_of HT_.out (by kernel_rfl)) (by decide) (by decide) (by decide) (fun K hK => ?_) (fun K hK => ?_) (fun K hK => ?_)
          · refine value_ (w1 := ?_) (v := ?_) (by rfl) rfl ?_ ?_
            rotate_left 2
            · go_simp
              constructor
              · rfl
              · rfl
            have hbl := below_alloc (Below.refl W.heap.size W) (Obj.cells #[.int .i64 m0] 3)
            have hf2 : Fam (W.alloc (Obj.cells #[.int .i64 m0] 3)) w.heap.size ([(.slice Ax0 x0.length cx0, x0), (.slice Ax1 x1.length cx1, x1), (.slice Ax2 x2.length cx2, x2), (.slice Ax3 x3.length cx3, x3), (.slice (some ⟨gl, 0, none⟩) 4 cl_, [m0, m1, m2, m3]), (.slice (some ⟨W.heap.size, 0, none⟩) 1 1, [m0]), (.slice none 0 0, []), (.slice none 0 0, []), (.slice (some ⟨g3, 0, none⟩) 1 1, [m3])] : List (Value × List Int)) := hf.made hb.size 5 rfl m0
            refine hK.out _ _ ⟨blk_below k4 hbl, hf2.cells4 4 rfl⟩ (fun hHeld => ?_)
            clear hK K
            have hc := S03_0.out (W.heap.size, g3) _ ⟨below_step hb hbl, blk_below k4 hbl, blk_below k2 hbl, Kd.R_below hp hbl, hf2⟩
            simp only [putAll, Act.put, List.setIfInBounds_toArray, List.set_cons_zero, List.set_cons_succ] at hc
            refine norm_ (a' := ?_) ?_ ?_
            rotate_left
            · show Act.put _ (some 44) _ = _
              simp only [Act.put, List.setIfInBounds_toArray, List.set_cons_zero, List.set_cons_succ, i64_w, i32_w]
              rfl
            exact hc
          · refine value_ (w1 := ?_) (v := ?_) (by rfl) rfl ?_ ?_
            rotate_left 2
            · go_simp
              constructor
              · rfl
              · rfl
            have hbl := below_alloc (Below.refl W.heap.size W) (Obj.cells #[.int .i64 m1] 3)
            have hf2 : Fam (W.alloc (Obj.cells #[.int .i64 m1] 3)) w.heap.size ([(.slice Ax0 x0.length cx0, x0), (.slice Ax1 x1.length cx1, x1), (.slice Ax2 x2.length cx2, x2), (.slice Ax3 x3.length cx3, x3), (.slice (some ⟨gl, 0, none⟩) 4 cl_, [m0, m1, m2, m3]), (.slice none 0 0, []), (.slice (some ⟨W.heap.size, 0, none⟩) 1 1, [m1]), (.slice none 0 0, []), (.slice (some ⟨g3, 0, none⟩) 1 1, [m3])] : List (Value × List Int)) := hf.made hb.size 6 rfl m1
            refine hK.out _ _ ⟨blk_below k4 hbl, hf2.cells4 4 rfl⟩ (fun hHeld => ?_)
            clear hK K
            have hc := S13_0.out (W.heap.size, g3) _ ⟨below_step hb hbl, blk_below k4 hbl, blk_below k2 hbl, Kd.R_below hp hbl, hf2⟩
            simp only [putAll, Act.put, List.setIfInBounds_toArray, List.set_cons_zero, List.set_cons_succ] at hc
            refine norm_ (a' := ?_) ?_ ?_
            rotate_left
            · show Act.put _ (some 51) _ = _
              simp only [Act.put, List.setIfInBounds_toArray, List.set_cons_zero, List.set_cons_succ, i64_w, i32_w]
              rfl
            exact hc
          · refine value_ (w1 := ?_) (v := ?_) (by rfl) rfl ?_ ?_
            rotate_left 2
            · go_simp
              constructor
              · rfl
              · rfl
            have hbl := below_alloc (Below.refl W.heap.size W) (Obj.cells #[.int .i64 m2] 3)
            have hf2 : Fam (W.alloc (Obj.cells #[.int .i64 m2] 3)) w.heap.size ([(.slice Ax0 x0.length cx0, x0), (.slice Ax1 x1.length cx1, x1), (.slice Ax2 x2.length cx2, x2), (.slice Ax3 x3.length cx3, x3), (.slice (some ⟨gl, 0, none⟩) 4 cl_, [m0, m1, m2, m3]), (.slice none 0 0, []), (.slice none 0 0, []), (.slice (some ⟨W.heap.size, 0, none⟩) 1 1, [m2]), (.slice (some ⟨g3, 0, none⟩) 1 1, [m3])] : List (Value × List Int)) := hf.made hb.size 7 rfl m2
            refine hK.out _ _ ⟨blk_below k4 hbl, hf2.cells4 4 rfl⟩ (fun hHeld => ?_)
            clear hK K
            have hc := S23_0.out (W.heap.size, g3) _ ⟨below_step hb hbl, blk_below k4 hbl, blk_below k2 hbl, Kd.R_below hp hbl, hf2⟩
            simp only [putAll, Act.put, List.setIfInBounds_toArray, List.set_cons_zero, List.set_cons_succ] at hc
            refine norm_ (a' := ?_) ?_ ?_
            rotate_left
            · show Act.put _ (some 58) _ = _
              simp only [Act.put, List.setIfInBounds_toArray, List.set_cons_zero, List.set_cons_succ, i64_w, i32_w]
              rfl
            exact hc
        intro H_
        have S3_0 := Aside0.mk H_
        clear H_
        have hb := HB.out
        have k4 := BKG4.out
        have k2 := BKG2.out
        have hp := HP.out
        have hf := HF.out
        clear hHeld HB BKG4 BKG2 HP HF
        generalize w69.drew = W at hb k4 k2 hp hf ⊢
        refine four_ (i := 5) (j := 12) (k := 19) (m := 26) (Ni := some 44) (Nj := some 51) (Nk := some 58) (Nm := some 65) #[true, true, true, true, true, true, false, true, true, true, true, true, false, false, true, true, true, true, true, false, false, true, true, true, true, true, false, false, false, false, false, false, false, false, false, false] #[true, true, true, true, true, false, false, true, true, true, true, true, true, false, true, true, true, true, true, false, false, true, true, true, true, true, false, false, false, false, false, false, false, false, false, false] #[true, true, true, true, true, false, false, true, true, true, true, true, false, false, true, true, true, true, true, true, false, true, true, true, true, true, false, false, false, false, false, false, false, false, false, false] #[true, true, true, true, true, false, false, true, true, true, true, true, false, false, true, true, true, true, true, false, false, true, true, true, true, true, true, false, false, false, false, false, false, false, false, false] rfl rfl rfl rfl rfl rfl rfl rfl (four_of HT_.out (by kernel_rfl)) (by decide) (by decide) (by decide) (by decide) (fun K hK => ?_) (fun K hK => ?_) (fun K hK => ?_) (fun K hK => ?_)
        · refine value_ (w1 := ?_) (v := ?_) (by rfl) rfl ?_ ?_
          rotate_left 2
          · go_simp
            constructor
            · rfl
            · rfl
          have hbl := below_alloc (Below.refl W.heap.size W) (Obj.cells #[.int .i64 m0] 3)
          have hf2 : Fam (W.alloc (Obj.cells #[.int .i64 m0] 3)) w.heap.size ([(.slice Ax0 x0.length cx0, x0), (.slice Ax1 x1.length cx1, x1), (.slice Ax2 x2.length cx2, x2), (.slice Ax3 x3.length cx3, x3), (.slice (some ⟨gl, 0, none⟩) 4 cl_, [m0, m1, m2, m3]), (.slice (some ⟨W.heap.size, 0, none⟩) 1 1, [m0]), (.slice none 0 0, []), (.slice none 0 0, []), (.slice none 0 0, [])] : List (Value × List Int)) := hf.made hb.size 5 rfl m0
          refine hK.out _ _ ⟨blk_below k4 hbl, hf2.cells4 4 rfl⟩ (fun hHeld => ?_)
          clear hK K
          have hc := S0_0.out (W.heap.size) _ ⟨below_step hb hbl, blk_below k4 hbl, blk_below k2 hbl, Kd.R_below hp hbl, hf2⟩
          simp only [putAll, Act.put, List.setIfInBounds_toArray, List.set_cons_zero, List.set_cons_succ] at hc
          refine norm_ (a' := ?_) ?_ ?_
          rotate_left
          · show Act.put _ (some 44) _ = _
            simp only [Act.put, List.setIfInBounds_toArray, List.set_cons_zero, List.set_cons_succ, i64_w, i32_w]
            rfl
          exact hc
        · refine value_ (w1 := ?_) (v := ?_) (by rfl) rfl ?_ ?_
          rotate_left 2
          · go_simp
            constructor
            · rfl
            · rfl
          have hbl := below_alloc (Below.refl W.heap.size W) (Obj.cells #[.int .i64 m1] 3)
          have hf2 : Fam (W.alloc (Obj.cells #[.int .i64 m1] 3)) w.heap.size ([(.slice Ax0 x0.length cx0, x0), (.slice Ax1 x1.length cx1, x1), (.slice Ax2 x2.length cx2, x2), (.slice Ax3 x3.length cx3, x3), (.slice (some ⟨gl, 0, none⟩) 4 cl_, [m0, m1, m2, m3]), (.slice none 0 0, []), (.slice (some ⟨W.heap.size, 0, none⟩) 1 1, [m1]), (.slice none 0 0, []), (.slice none 0 0, [])] : List (Value × List Int)) := hf.made hb.size 6 rfl m1
          refine hK.out _ _ ⟨blk_below k4 hbl, hf2.cells4 4 rfl⟩ (fun hHeld => ?_)
          clear hK K
          have hc := S1_0.out (W.heap.size) _ ⟨below_step hb hbl, blk_below k4 hbl, blk_below k2 hbl, Kd.R_below hp hbl, hf2⟩
          simp only [putAll, Act.put, List.setIfInBounds_toArray, List.set_cons_zero, List.set_cons_succ] at hc
          refine norm_ (a' := ?_) ?_ ?_
          rotate_left
          · show Act.put _ (some 51) _ = _
            simp only [Act.put, List.setIfInBounds_toArray, List.set_cons_zero, List.set_cons_succ, i64_w, i32_w]
            rfl
          exact hc
        · refine value_ (w1 := ?_) (v := ?_) (by rfl) rfl ?_ ?_
          rotate_left 2
          · go_simp
            constructor
            · rfl
            · rfl
          have hbl := below_alloc (Below.refl W.heap.size W) (Obj.cells #[.int .i64 m2] 3)
          have hf2 : Fam (W.alloc (Obj.cells #[.int .i64 m2] 3)) w.heap.size ([(.slice Ax0 x0.length cx0, x0), (.slice Ax1 x1.length cx1, x1), (.slice Ax2 x2.length cx2, x2), (.slice Ax3 x3.length cx3, x3), (.slice (some ⟨gl, 0, none⟩) 4 cl_, [m0, m1, m2, m3]), (.slice none 0 0, []), (.slice none 0 0, []), (.slice (some ⟨W.heap.size, 0, none⟩) 1 1, [m2]), (.slice none 0 0, [])] : List (Value × List Int)) := hf.made hb.size 7 rfl m2
          refine hK.out _ _ ⟨blk_below k4 hbl, hf2.cells4 4 rfl⟩ (fun hHeld => ?_)
          clear hK K
          have hc := S2_0.out (W.heap.size) _ ⟨below_step hb hbl, blk_below k4 hbl, blk_below k2 hbl, Kd.R_below hp hbl, hf2⟩
          simp only [putAll, Act.put, List.setIfInBounds_toArray, List.set_cons_zero, List.set_cons_succ] at hc
          refine norm_ (a' := ?_) ?_ ?_
          rotate_left
          · show Act.put _ (some 58) _ = _
            simp only [Act.put, List.setIfInBounds_toArray, List.set_cons_zero, List.set_cons_succ, i64_w, i32_w]
            rfl
          exact hc
        · refine value_ (w1 := ?_) (v := ?_) (by rfl) rfl ?_ ?_
          rotate_left 2
          · go_simp
            constructor
            · rfl
            · rfl
          have hbl := below_alloc (Below.refl W.heap.size W) (Obj.cells #[.int .i64 m3] 3)
          have hf2 : Fam (W.alloc (Obj.cells #[.int .i64 m3] 3)) w.heap.size ([(.slice Ax0 x0.length cx0, x0), (.slice Ax1 x1.length cx1, x1), (.slice Ax2 x2.length cx2, x2), (.slice Ax3 x3.length cx3, x3), (.slice (some ⟨gl, 0, none⟩) 4 cl_, [m0, m1, m2, m3]), (.slice none 0 0, []), (.slice none 0 0, []), (.slice none 0 0, []), (.slice (some ⟨W.heap.size, 0, none⟩) 1 1, [m3])] : List (Value × List Int)) := hf.made hb.size 8 rfl m3
          refine hK.out _ _ ⟨blk_below k4 hbl, hf2.cells4 4 rfl⟩ (fun hHeld => ?_)
          clear hK K
          have hc := S3_0.out (W.heap.size) _ ⟨below_step hb hbl, blk_below k4 hbl, blk_below k2 hbl, Kd.R_below hp hbl, hf2⟩
          simp only [putAll, Act.put, List.setIfInBounds_toArray, List.set_cons_zero, List.set_cons_succ] at hc
          refine norm_ (a' := ?_) ?_ ?_
          rotate_left
          · show Act.put _ (some 65) _ = _
            simp only [Act.put, List.setIfInBounds_toArray, List.set_cons_zero, List.set_cons_succ, i64_w, i32_w]
            rfl
          exact hc
    · rw [if_neg cl] at H
      unfold impl_ParseCase.t at H
      obtain ⟨gg, AG0, H⟩ := Option.bind_eq_some_iff.mp H
      have AG := Aside0.mk AG0
      clear AG0
      have q1b : decide (i < (ws.length : Int)) = false := decide_eq_false cl
      clear cl
      cases gg with
      | false =>
        have H : some ((([] : List Int), ([] : List Int), ([] : List Int), ([] : List Int), false) : List Int × List Int × List Int × List Int × Bool) = some (r1, r2, r3, r4, r5) := H
        simp only [Option.some.injEq, Prod.mk.injEq] at H
        obtain ⟨rfl, rfl, rfl, rfl, rfl⟩ := H
        go_wp2_with (first | (go_at_call 70; (with_reducible refine (impl_IsCase.calls k _ _ x0 _ _ x1 _ _ x2 _ _ x3 _ _ (Kd.R_reads' (HF.out.get 0 rfl)).2.2 (Kd.R_reads' (HF.out.get 0 rfl)).2.1 (Kd.R_reads' (HF.out.get 1 rfl)).2.2 (Kd.R_reads' (HF.out.get 1 rfl)).2.1 (Kd.R_reads' (HF.out.get 2 rfl)).2.2 (Kd.R_reads' (HF.out.get 2 rfl)).2.1 (Kd.R_reads' (HF.out.get 3 rfl)).2.2 (Kd.R_reads' (HF.out.get 3 rfl)).2.1 AG.out).mono ?_); rintro e w70 ⟨rfl, hb⟩; have n0_ := Aside0.mk (below_step HB.out hb); clear hc4_0 hf4_0 hc4_1 hf4_1 hc4_2 hf4_2 hc4_3 hf4_3; clear hc2_0 hf2_0 hc2_1 hf2_1 hc2_2 hf2_2 hc2_3 hf2_3; have m0_ := Aside0.mk (blk_below BKG2.out hb); have m1_ := Aside0.mk (blk_below BKG4.out hb); have m2_ := Aside0.mk (Fam.below HF.out hb); have m3_ := Aside0.mk (Kd.R_below HP.out hb); clear HB BKG2 BKG4 HF HP; have HB := n0_; have BKG2 := m0_; have BKG4 := m1_; have HF := m2_; have HP := m3_; clear n0_ m0_ m1_ m2_ m3_; have hc4_0 : w70.cell? ⟨G4, 0, none⟩ = some (.slice Ax0 x0.length cx0) := (blk_cell BKG4.out 0).trans rfl; have hf4_0 := blk_frozen BKG4.out 0; have hc4_1 : w70.cell? ⟨G4, 1, none⟩ = some (.slice Ax1 x1.length cx1) := (blk_cell BKG4.out 1).trans rfl; have hf4_1 := blk_frozen BKG4.out 1; have hc4_2 : w70.cell? ⟨G4, 2, none⟩ = some (.slice Ax2 x2.length cx2) := (blk_cell BKG4.out 2).trans rfl; have hf4_2 := blk_frozen BKG4.out 2; have hc4_3 : w70.cell? ⟨G4, 3, none⟩ = some (.slice Ax3 x3.length cx3) := (blk_cell BKG4.out 3).trans rfl; have hf4_3 := blk_frozen BKG4.out 3; have hc2_0 : w70.cell? ⟨G2, 0, none⟩ = some (.slice none 0 0) := (blk_cell BKG2.out 0).trans rfl; have hf2_0 := blk_frozen BKG2.out 0; have hc2_1 : w70.cell? ⟨G2, 1, none⟩ = some (.slice none 0 0) := (blk_cell BKG2.out 1).trans rfl; have hf2_1 := blk_frozen BKG2.out 1; have hc2_2 : w70.cell? ⟨G2, 2, none⟩ = some (.slice none 0 0) := (blk_cell BKG2.out 2).trans rfl; have hf2_2 := blk_frozen BKG2.out 2; have hc2_3 : w70.cell? ⟨G2, 3, none⟩ = some (.slice none 0 0) := (blk_cell BKG2.out 3).trans rfl; have hf2_3 := blk_frozen BKG2.out 3; clear hb))
        obtain ⟨T1, T2, T3⟩ := stored4 BKG2.out HB.out HG2.out (.slice none 0 0) (.slice none 0 0) (.slice none 0 0) (.slice none 0 0)
        refine bodyPost_ret (results_ct rfl _ _ G2 47 #[.slice none 0 0, .slice none 0 0, .slice none 0 0, .slice none 0 0] (0, 0) _ rfl T1 hu47 rfl (by kernel_rfl)) rfl ?_
        exact ⟨_, _, _, _, rfl, Kd.R_nil _ _ _ _ _, Kd.R_nil _ _ _ _ _, Kd.R_nil _ _ _ _ _, Kd.R_nil _ _ _ _ _, T3⟩
      | true =>
        have H : (impl_caseText.f k x0 x1 x2 x3).bind (fun t => if t.toList = a0.toList then some (x0, x1, x2, x3, true) else some ([], [], [], [], false)) = some (r1, r2, r3, r4, r5) := H
        obtain ⟨tx, AT0, H⟩ := Option.bind_eq_some_iff.mp H
        have AT := Aside0.mk AT0
        clear AT0
        by_cases ce : tx.toList = a0.toList
        · rw [if_pos ce] at H
          simp only [Option.some.injEq, Prod.mk.injEq] at H
          obtain ⟨rfl, rfl, rfl, rfl, rfl⟩ := H
          have ce0 : (tx.toList == a0.toList) = true := beq_iff_eq.mpr ce
          have ce1 : (tx.toList != a0.toList) = false := bne_eq_false_iff_eq.mpr ce
          clear ce
          go_wp2_with (first | (go_at_call 70; (with_reducible refine (impl_IsCase.calls k _ _ x0 _ _ x1 _ _ x2 _ _ x3 _ _ (Kd.R_reads' (HF.out.get 0 rfl)).2.2 (Kd.R_reads' (HF.out.get 0 rfl)).2.1 (Kd.R_reads' (HF.out.get 1 rfl)).2.2 (Kd.R_reads' (HF.out.get 1 rfl)).2.1 (Kd.R_reads' (HF.out.get 2 rfl)).2.2 (Kd.R_reads' (HF.out.get 2 rfl)).2.1 (Kd.R_reads' (HF.out.get 3 rfl)).2.2 (Kd.R_reads' (HF.out.get 3 rfl)).2.1 AG.out).mono ?_); rintro e w70 ⟨rfl, hb⟩; have n0_ := Aside0.mk (below_step HB.out hb); clear hc4_0 hf4_0 hc4_1 hf4_1 hc4_2 hf4_2 hc4_3 hf4_3; clear hc2_0 hf2_0 hc2_1 hf2_1 hc2_2 hf2_2 hc2_3 hf2_3; have m0_ := Aside0.mk (blk_below BKG2.out hb); have m1_ := Aside0.mk (blk_below BKG4.out hb); have m2_ := Aside0.mk (Fam.below HF.out hb); have m3_ := Aside0.mk (Kd.R_below HP.out hb); clear HB BKG2 BKG4 HF HP; have HB := n0_; have BKG2 := m0_; have BKG4 := m1_; have HF := m2_; have HP := m3_; clear n0_ m0_ m1_ m2_ m3_; have hc4_0 : w70.cell? ⟨G4, 0, none⟩ = some (.slice Ax0 x0.length cx0) := (blk_cell BKG4.out 0).trans rfl; have hf4_0 := blk_frozen BKG4.out 0; have hc4_1 : w70.cell? ⟨G4, 1, none⟩ = some (.slice Ax1 x1.length cx1) := (blk_cell BKG4.out 1).trans rfl; have hf4_1 := blk_frozen BKG4.out 1; have hc4_2 : w70.cell? ⟨G4, 2, none⟩ = some (.slice Ax2 x2.length cx2) := (blk_cell BKG4.out 2).trans rfl; have hf4_2 := blk_frozen BKG4.out 2; have hc4_3 : w70.cell? ⟨G4, 3, none⟩ = some (.slice Ax3 x3.length cx3) := (blk_cell BKG4.out 3).trans rfl; have hf4_3 := blk_frozen BKG4.out 3; have hc2_0 : w70.cell? ⟨G2, 0, none⟩ = some (.slice none 0 0) := (blk_cell BKG2.out 0).trans rfl; have hf2_0 := blk_frozen BKG2.out 0; have hc2_1 : w70.cell? ⟨G2, 1, none⟩ = some (.slice none 0 0) := (blk_cell BKG2.out 1).trans rfl; have hf2_1 := blk_frozen BKG2.out 1; have hc2_2 : w70.cell? ⟨G2, 2, none⟩ = some (.slice none 0 0) := (blk_cell BKG2.out 2).trans rfl; have hf2_2 := blk_frozen BKG2.out 2; have hc2_3 : w70.cell? ⟨G2, 3, none⟩ = some (.slice none 0 0) := (blk_cell BKG2.out 3).trans rfl; have hf2_3 := blk_frozen BKG2.out 3; clear hb) | (go_at_call 71; (with_reducible refine (impl_caseText.calls k _ _ x0 _ _ x1 _ _ x2 _ _ x3 tx _ (Kd.R_reads' (HF.out.get 0 rfl)).2.2 (Kd.R_reads' (HF.out.get 0 rfl)).2.1 (Kd.R_reads' (HF.out.get 1 rfl)).2.2 (Kd.R_reads' (HF.out.get 1 rfl)).2.1 (Kd.R_reads' (HF.out.get 2 rfl)).2.2 (Kd.R_reads' (HF.out.get 2 rfl)).2.1 (Kd.R_reads' (HF.out.get 3 rfl)).2.2 (Kd.R_reads' (HF.out.get 3 rfl)).2.1 AT.out (Tabs.below HT0.out HB.out)).mono ?_); rintro e w71 ⟨rfl, hb⟩; have n0_ := Aside0.mk (below_step HB.out hb); clear hc4_0 hf4_0 hc4_1 hf4_1 hc4_2 hf4_2 hc4_3 hf4_3; clear hc2_0 hf2_0 hc2_1 hf2_1 hc2_2 hf2_2 hc2_3 hf2_3; have m0_ := Aside0.mk (blk_below BKG2.out hb); have m1_ := Aside0.mk (blk_below BKG4.out hb); have m2_ := Aside0.mk (Fam.below HF.out hb); have m3_ := Aside0.mk (Kd.R_below HP.out hb); clear HB BKG2 BKG4 HF HP; have HB := n0_; have BKG2 := m0_; have BKG4 := m1_; have HF := m2_; have HP := m3_; clear n0_ m0_ m1_ m2_ m3_; have hc4_0 : w71.cell? ⟨G4, 0, none⟩ = some (.slice Ax0 x0.length cx0) := (blk_cell BKG4.out 0).trans rfl; have hf4_0 := blk_frozen BKG4.out 0; have hc4_1 : w71.cell? ⟨G4, 1, none⟩ = some (.slice Ax1 x1.length cx1) := (blk_cell BKG4.out 1).trans rfl; have hf4_1 := blk_frozen BKG4.out 1; have hc4_2 : w71.cell? ⟨G4, 2, none⟩ = some (.slice Ax2 x2.length cx2) := (blk_cell BKG4.out 2).trans rfl; have hf4_2 := blk_frozen BKG4.out 2; have hc4_3 : w71.cell? ⟨G4, 3, none⟩ = some (.slice Ax3 x3.length cx3) := (blk_cell BKG4.out 3).trans rfl; have hf4_3 := blk_frozen BKG4.out 3; have hc2_0 : w71.cell? ⟨G2, 0, none⟩ = some (.slice none 0 0) := (blk_cell BKG2.out 0).trans rfl; have hf2_0 := blk_frozen BKG2.out 0; have hc2_1 : w71.cell? ⟨G2, 1, none⟩ = some (.slice none 0 0) := (blk_cell BKG2.out 1).trans rfl; have hf2_1 := blk_frozen BKG2.out 1; have hc2_2 : w71.cell? ⟨G2, 2, none⟩ = some (.slice none 0 0) := (blk_cell BKG2.out 2).trans rfl; have hf2_2 := blk_frozen BKG2.out 2; have hc2_3 : w71.cell? ⟨G2, 3, none⟩ = some (.slice none 0 0) := (blk_cell BKG2.out 3).trans rfl; have hf2_3 := blk_frozen BKG2.out 3; clear hb))
          obtain ⟨T1, T2, T3⟩ := stored4 BKG2.out HB.out HG2.out (.slice Ax0 x0.length cx0) (.slice Ax1 x1.length cx1) (.slice Ax2 x2.length cx2) (.slice Ax3 x3.length cx3)
          have HE := HF.out.fr BKG2.out (by decide) T2
          refine bodyPost_ret (results_ct rfl _ _ G2 47 #[.slice Ax0 x0.length cx0, .slice Ax1 x1.length cx1, .slice Ax2 x2.length cx2, .slice Ax3 x3.length cx3] (0, 0) _ rfl T1 hu47 rfl (by kernel_rfl)) rfl ?_
          exact ⟨_, _, _, _, rfl, R_okk (HE.get 0 rfl) (fun k_ hk => ⟨HE.dis 0 1 (by decide) rfl rfl k_ hk, HE.dis 0 2 (by decide) rfl rfl k_ hk, HE.dis 0 3 (by decide) rfl rfl k_ hk⟩), R_okk (HE.get 1 rfl) (fun k_ hk => ⟨HE.dis 1 0 (by decide) rfl rfl k_ hk, HE.dis 1 2 (by decide) rfl rfl k_ hk, HE.dis 1 3 (by decide) rfl rfl k_ hk⟩), R_okk (HE.get 2 rfl) (fun k_ hk => ⟨HE.dis 2 0 (by decide) rfl rfl k_ hk, HE.dis 2 1 (by decide) rfl rfl k_ hk, HE.dis 2 3 (by decide) rfl rfl k_ hk⟩), R_okk (HE.get 3 rfl) (fun k_ hk => ⟨HE.dis 3 0 (by decide) rfl rfl k_ hk, HE.dis 3 1 (by decide) rfl rfl k_ hk, HE.dis 3 2 (by decide) rfl rfl k_ hk⟩), T3⟩
        · rw [if_neg ce] at H
          have H : some ((([] : List Int), ([] : List Int), ([] : List Int), ([] : List Int), false) : List Int × List Int × List Int × List Int × Bool) = some (r1, r2, r3, r4, r5) := H
          simp only [Option.some.injEq, Prod.mk.injEq] at H
          obtain ⟨rfl, rfl, rfl, rfl, rfl⟩ := H
          have ce0 : (tx.toList == a0.toList) = false := beq_eq_false_iff_ne.mpr ce
          have ce1 : (tx.toList != a0.toList) = true := bne_iff_ne.mpr ce
          clear ce
          go_wp2_with (first | (go_at_call 70; (with_reducible refine (impl_IsCase.calls k _ _ x0 _ _ x1 _ _ x2 _ _ x3 _ _ (Kd.R_reads' (HF.out.get 0 rfl)).2.2 (Kd.R_reads' (HF.out.get 0 rfl)).2.1 (Kd.R_reads' (HF.out.get 1 rfl)).2.2 (Kd.R_reads' (HF.out.get 1 rfl)).2.1 (Kd.R_reads' (HF.out.get 2 rfl)).2.2 (Kd.R_reads' (HF.out.get 2 rfl)).2.1 (Kd.R_reads' (HF.out.get 3 rfl)).2.2 (Kd.R_reads' (HF.out.get 3 rfl)).2.1 AG.out).mono ?_); rintro e w70 ⟨rfl, hb⟩; have n0_ := Aside0.mk (below_step HB.out hb); clear hc4_0 hf4_0 hc4_1 hf4_1 hc4_2 hf4_2 hc4_3 hf4_3; clear hc2_0 hf2_0 hc2_1 hf2_1 hc2_2 hf2_2 hc2_3 hf2_3; have m0_ := Aside0.mk (blk_below BKG2.out hb); have m1_ := Aside0.mk (blk_below BKG4.out hb); have m2_ := Aside0.mk (Fam.below HF.out hb); have m3_ := Aside0.mk (Kd.R_below HP.out hb); clear HB BKG2 BKG4 HF HP; have HB := n0_; have BKG2 := m0_; have BKG4 := m1_; have HF := m2_; have HP := m3_; clear n0_ m0_ m1_ m2_ m3_; have hc4_0 : w70.cell? ⟨G4, 0, none⟩ = some (.slice Ax0 x0.length cx0) := (blk_cell BKG4.out 0).trans rfl; have hf4_0 := blk_frozen BKG4.out 0; have hc4_1 : w70.cell? ⟨G4, 1, none⟩ = some (.slice Ax1 x1.length cx1) := (blk_cell BKG4.out 1).trans rfl; have hf4_1 := blk_frozen BKG4.out 1; have hc4_2 : w70.cell? ⟨G4, 2, none⟩ = some (.slice Ax2 x2.length cx2) := (blk_cell BKG4.out 2).trans rfl; have hf4_2 := blk_frozen BKG4.out 2; have hc4_3 : w70.cell? ⟨G4, 3, none⟩ = some (.slice Ax3 x3.length cx3) := (blk_cell BKG4.out 3).trans rfl; have hf4_3 := blk_frozen BKG4.out 3; have hc2_0 : w70.cell? ⟨G2, 0, none⟩ = some (.slice none 0 0) := (blk_cell BKG2.out 0).trans rfl; have hf2_0 := blk_frozen BKG2.out 0; have hc2_1 : w70.cell? ⟨G2, 1, none⟩ = some (.slice none 0 0) := (blk_cell BKG2.out 1).trans rfl; have hf2_1 := blk_frozen BKG2.out 1; have hc2_2 : w70.cell? ⟨G2, 2, none⟩ = some (.slice none 0 0) := (blk_cell BKG2.out 2).trans rfl; have hf2_2 := blk_frozen BKG2.out 2; have hc2_3 : w70.cell? ⟨G2, 3, none⟩ = some (.slice none 0 0) := (blk_cell BKG2.out 3).trans rfl; have hf2_3 := blk_frozen BKG2.out 3; clear hb) | (go_at_call 71; (with_reducible refine (impl_caseText.calls k _ _ x0 _ _ x1 _ _ x2 _ _ x3 tx _ (Kd.R_reads' (HF.out.get 0 rfl)).2.2 (Kd.R_reads' (HF.out.get 0 rfl)).2.1 (Kd.R_reads' (HF.out.get 1 rfl)).2.2 (Kd.R_reads' (HF.out.get 1 rfl)).2.1 (Kd.R_reads' (HF.out.get 2 rfl)).2.2 (Kd.R_reads' (HF.out.get 2 rfl)).2.1 (Kd.R_reads' (HF.out.get 3 rfl)).2.2 (Kd.R_reads' (HF.out.get 3 rfl)).2.1 AT.out (Tabs.below HT0.out HB.out)).mono ?_); rintro e w71 ⟨rfl, hb⟩; have n0_ := Aside0.mk (below_step HB.out hb); clear hc4_0 hf4_0 hc4_1 hf4_1 hc4_2 hf4_2 hc4_3 hf4_3; clear hc2_0 hf2_0 hc2_1 hf2_1 hc2_2 hf2_2 hc2_3 hf2_3; have m0_ := Aside0.mk (blk_below BKG2.out hb); have m1_ := Aside0.mk (blk_below BKG4.out hb); have m2_ := Aside0.mk (Fam.below HF.out hb); have m3_ := Aside0.mk (Kd.R_below HP.out hb); clear HB BKG2 BKG4 HF HP; have HB := n0_; have BKG2 := m0_; have BKG4 := m1_; have HF := m2_; have HP := m3_; clear n0_ m0_ m1_ m2_ m3_; have hc4_0 : w71.cell? ⟨G4, 0, none⟩ = some (.slice Ax0 x0.length cx0) := (blk_cell BKG4.out 0).trans rfl; have hf4_0 := blk_frozen BKG4.out 0; have hc4_1 : w71.cell? ⟨G4, 1, none⟩ = some (.slice Ax1 x1.length cx1) := (blk_cell BKG4.out 1).trans rfl; have hf4_1 := blk_frozen BKG4.out 1; have hc4_2 : w71.cell? ⟨G4, 2, none⟩ = some (.slice Ax2 x2.length cx2) := (blk_cell BKG4.out 2).trans rfl; have hf4_2 := blk_frozen BKG4.out 2; have hc4_3 : w71.cell? ⟨G4, 3, none⟩ = some (.slice Ax3 x3.length cx3) := (blk_cell BKG4.out 3).trans rfl; have hf4_3 := blk_frozen BKG4.out 3; have hc2_0 : w71.cell? ⟨G2, 0, none⟩ = some (.slice none 0 0) := (blk_cell BKG2.out 0).trans rfl; have hf2_0 := blk_frozen BKG2.out 0; have hc2_1 : w71.cell? ⟨G2, 1, none⟩ = some (.slice none 0 0) := (blk_cell BKG2.out 1).trans rfl; have hf2_1 := blk_frozen BKG2.out 1; have hc2_2 : w71.cell? ⟨G2, 2, none⟩ = some (.slice none 0 0) := (blk_cell BKG2.out 2).trans rfl; have hf2_2 := blk_frozen BKG2.out 2; have hc2_3 : w71.cell? ⟨G2, 3, none⟩ = some (.slice none 0 0) := (blk_cell BKG2.out 3).trans rfl; have hf2_3 := blk_frozen BKG2.out 3; clear hb))
          obtain ⟨T1, T2, T3⟩ := stored4 BKG2.out HB.out HG2.out (.slice none 0 0) (.slice none 0 0) (.slice none 0 0) (.slice none 0 0)
          refine bodyPost_ret (results_ct rfl _ _ G2 47 #[.slice none 0 0, .slice none 0 0, .slice none 0 0, .slice none 0 0] (0, 0) _ rfl T1 hu47 rfl (by kernel_rfl)) rfl ?_
          exact ⟨_, _, _, _, rfl, Kd.R_nil _ _ _ _ _, Kd.R_nil _ _ _ _ _, Kd.R_nil _ _ _ _ _, Kd.R_nil _ _ _ _ _, T3⟩

end Go.Proofs.YtbdbogpmnmcaeaaDoor.PFnExactParseCase
