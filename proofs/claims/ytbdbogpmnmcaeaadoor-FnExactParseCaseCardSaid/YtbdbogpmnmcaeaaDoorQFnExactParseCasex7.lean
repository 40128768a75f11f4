/- Written by hand and by programs of this session: rows of one's own side by side; spec.l2Read. -/
import Derived.Test.YtbdbogpmnmcaeaaDoorQFnExactParseCasex0
import Derived.Test.YtbdbogpmnmcaeaaDoorQFnExactParseCasex1
import Derived.Test.YtbdbogpmnmcaeaaDoorQFnExactParseCasex2
import Derived.Test.YtbdbogpmnmcaeaaDoorQFnExactParseCasex3
import Derived.Test.YtbdbogpmnmcaeaaDoorQFnExactParseCasex4
import Derived.Test.YtbdbogpmnmcaeaaDoorQFnExactParseCasex5
import Derived.Test.YtbdbogpmnmcaeaaDoorQFnExactParseCasex6
import Derived.Deep.RegionLaw
import Derived.Test.YtbdbogpmnmcaeaaDoorHold
namespace Go.Proofs.YtbdbogpmnmcaeaaDoor.PFnExactParseCase
open Go.RowKit Go.Proofs.YtbdbogpmnmcaeaaDoor.Tabs Go.Proofs.YtbdbogpmnmcaeaaDoorW.PrintWords Go.Proofs.YtbdbogpmnmcaeaaDoorW.PrintLast Go.Proofs.YtbdbogpmnmcaeaaDoorW.PrintMore Go.Proofs.YtbdbogpmnmcaeaaDoor.Hold
set_option linter.unusedVariables false
set_option linter.unusedSimpArgs false
/-- Two rows that are not the same block. -/
def Dis (u v : Value) : Prop := ∀ k, u.ownBlock = some k → v.ownBlock = some k → False
/-- Some rows of the call's own, no two in one block. -/
def Fam (W : World) (B : Nat) (L : List (Value × List Int)) : Prop :=
  (∀ (i : Nat) (p : Value × List Int), L[i]? = some p → Kd.R (Kd.int .i64) 3 W B (fun _ => True) p.1 p.2) ∧ (∀ (i j : Nat) (p q : Value × List Int), L[i]? = some p → L[j]? = some q → i ≠ j → Dis p.1 q.1)
theorem R_okk {W : World} {B : Nat} {ok ok' : Nat → Prop} {v : Value} {xs : List Int} (h : Kd.R (Kd.int .i64) 3 W B ok v xs) (h' : ∀ k, v.ownBlock = some k → ok' k) : Kd.R (Kd.int .i64) 3 W B ok' v xs := ⟨h', h.2⟩
theorem Fam.below {W W' : World} {B : Nat} {L : List (Value × List Int)} (h : Fam W B L) (hb : Below W.heap.size W W') : Fam W' B L := ⟨fun i p e => Kd.R_below (h.1 i p e) hb, h.2⟩
theorem Fam.box {W : World} {B : Nat} {L : List (Value × List Int)} (h : Fam W B L) {g t : Nat} {cells : Array Value} (hb : W.heap[g]? = some (.cells cells t (0, 0))) (ht : t ≠ 3) (j : Nat) (u : Value) : Fam (W.setCell ⟨g, j, none⟩ u) B L :=
  ⟨fun i p e => Kd.R_set (h.1 i p e) hb (fun q hq => by
    have : q = 3 := by simpa [Kd.int, Kd.scalar] using hq
    rw [this]; exact Ne.symm ht) j u, h.2⟩
theorem Fam.replace {W W' : World} {B : Nat} {L : List (Value × List Int)} (h : Fam W B L) (i : Nat) {v v' : Value} {xs xs' : List Int} (hi : L[i]? = some (v, xs)) (hr : Kd.R (Kd.int .i64) 3 W' B (fun _ => True) v' xs') (hg : W.grownBy W' v.ownBlock)
    (hat : v'.ownBlock = v.ownBlock ∨ ∃ b, v'.ownBlock = some b ∧ W.heap.size ≤ b) : Fam W' B (L.set i (v', xs')) := by
  have hil : i < L.length := (List.getElem?_eq_some_iff.1 hi).1
  have ds : ∀ (j : Nat) (q : Value × List Int), L[j]? = some q → j ≠ i → Dis v' q.1 := by
    intro j q hj hne k hk hq
    rcases hat with hat | ⟨b, hb, hle⟩
    · rw [hat] at hk
      exact h.2 i j _ _ hi hj (Ne.symm hne) k hk hq
    · have := Kd.R_lt (h.1 j q hj) k hq
      rw [hb] at hk
      injection hk with hk
      omega
  refine ⟨fun j p e => ?_, fun a b p q ea eb hne => ?_⟩
  · rw [List.getElem?_set] at e
    by_cases c : i = j
    · subst c
      rw [if_pos rfl, if_pos hil] at e
      obtain rfl := Option.some.inj e
      exact hr
    · rw [if_neg c] at e
      have h1 : Kd.R (Kd.int .i64) 3 W B (fun k => True ∧ some k ≠ v.ownBlock) p.1 p.2 := R_okk (h.1 j p e) (fun k hk => ⟨trivial, fun z => h.2 i j _ _ hi e c k z.symm hk⟩)
      exact Kd.R_mono (Kd.R_after h1 hg hat) (fun _ hk => hk.1)
  · rw [List.getElem?_set] at ea eb
    by_cases c : i = a
    · subst c
      rw [if_pos rfl, if_pos hil] at ea
      rw [if_neg hne] at eb
      obtain rfl := Option.some.inj ea
      exact ds b q eb (Ne.symm hne)
    · rw [if_neg c] at ea
      by_cases d : i = b
      · subst d
        rw [if_pos rfl, if_pos hil] at eb
        obtain rfl := Option.some.inj eb
        exact fun k hk hq => ds a p ea (Ne.symm c) k hq hk
      · rw [if_neg d] at eb
        exact h.2 a b p q ea eb hne
theorem grown_below {W W' : World} (h : Below W.heap.size W W') : W.grownBy W' none := ⟨h.os, h.tape, h.output, h.size, fun k hk _ => h.block k hk⟩
theorem Fam.get {W : World} {B : Nat} {L : List (Value × List Int)} (h : Fam W B L) (i : Nat) {v : Value} {xs : List Int} (hi : L[i]? = some (v, xs)) : Kd.R (Kd.int .i64) 3 W B (fun _ => True) v xs := h.1 i _ hi
theorem Fam.dis {W : World} {B : Nat} {L : List (Value × List Int)} (h : Fam W B L) (i j : Nat) (hne : i ≠ j) {v u : Value} {xs ys : List Int} (hi : L[i]? = some (v, xs)) (hj : L[j]? = some (u, ys)) : ∀ k, v.ownBlock = some k → some k ≠ u.ownBlock := fun k hk e => h.2 i j _ _ hi hj hne k hk e.symm
/-- A slot that holds nothing yet is given a row that was made just now. -/
theorem Fam.fill {W W' : World} {B : Nat} {L : List (Value × List Int)} (h : Fam W B L) (i : Nat) {v' : Value} {xs xs' : List Int} (hi : L[i]? = some (.slice none 0 0, xs)) (hb : Below W.heap.size W W') (hr : Kd.R (Kd.int .i64) 3 W' W.heap.size (fun _ => True) v' xs') (hB : B ≤ W.heap.size) : Fam W' B (L.set i (v', xs')) := by
  refine h.replace i hi (Kd.R_lower hr hB) (grown_below hb) ?_
  rcases Kd.R_base2 hr with e | ⟨k, e, hk⟩
  · exact .inl (e.trans (by simp [Value.ownBlock]))
  · exact .inr ⟨k, e, hk⟩

/-! ### spec_l2Read: function 66 -/
def spec_l2Read.l (k : Nat) (ps : List ByteArray) : Nat → Int → List Int → Option (List Int × Bool)
  | 0, _, o => some (o, true)
  | d + 1, i, o => (spec_l1Read.f k (rdOf ByteArray.empty ps i)).bind fun r => if r.2 = true then spec_l2Read.l k ps d (i + 1) (o.set i.toNat r.1) else some ([0, 0, 0, 0], false)
def spec_l2Read.f (k : Nat) (a0 : ByteArray) : Option (List Int × Bool) := (spec_l1Split.f k a0 47).bind fun ps => if ps.length = 4 then spec_l2Read.l k ps 4 0 [0, 0, 0, 0] else some ([0, 0, 0, 0], false)
theorem quad_of (l : List Int) (h : l.length = 4) : ∃ a b c d, l = [a, b, c, d] := by
  match l, h with
  | [a, b, c, d], _ => exact ⟨a, b, c, d, rfl⟩
theorem fr_blk {W W' : World} {g h : Nat} {o : Obj} (e : W.heap[h]? = some o) (f : Fr W W' g (g + 1)) (hne : h ≠ g) : W'.heap[h]? = some o := Fr.blk e f (by omega)
theorem fr_R {α : Type} {d : Kd α} {W W' : World} {B e : Nat} {ok : Nat → Prop} {v : Value} {xs : List α} {g t : Nat} {cells : Array Value} (h : d.R e W B ok v xs) (hb : W.heap[g]? = some (.cells cells t (0, 0))) (ht : ∀ q, q ∈ e :: d.E → q ≠ t) (f : Fr W W' g (g + 1)) : d.R e W' B ok v xs :=
  Kd.R_mono (Kd.R_step (Kd.R_types h hb ht) (fun k hk hlt => f.2 k hlt (by have := hk.2; omega))) (fun _ hk => hk.1)
set_option maxHeartbeats 8000000 in
set_option maxRecDepth 100000 in
theorem spec_l2Read.calls (k : Nat) (a0 : ByteArray) (r : List Int) (b : Bool) (w : World) (h : spec_l2Read.f k a0 = some (r, b)) :
    Calls Tryd.prog 66 #[.string a0] w fun e w' => e = .returned (.tuple #[.agg (nums .i64 r).toArray, .bool b]) ∧ r.length = 4 ∧ Below w.heap.size w w' := by
  have hu79 := Tryd.underlying79
  obtain ⟨ps, hps, h⟩ := Option.bind_eq_some_iff.mp h
  have HS := Aside0.mk hps
  clear hps
  have HB := Aside0.mk (Below.refl w.heap.size w)
  go_enter Tryd.func66, Tryd.ntmps66
  go_upto_region 2 with (first | (refine gate_dst (N := 2) rfl ?_; refine box_event ?hg (N := 2) ?hd (cs := #[.int .i64 0, .int .i64 0, .int .i64 0, .int .i64 0]) (t := 79) ?hr ?_; (case hd => rfl); (case hg => rfl); (case hr => first | (go_simp; done) | (go_simp; rfl)); intro G0 hg w1 hbox hb; have n0_ := Aside0.mk (below_step HB.out hb); have HG0 := Aside0.mk (show w.heap.size ≤ G0 by rw [hg]; exact HB.out.size); clear HB ; have HB := n0_; clear n0_ ; have BKG0 := Aside0.mk hbox; clear hb hbox hg) | (go_at_call 52; (with_reducible refine (spec_l1Split.calls k a0 47 ps _ HS.out).mono ?_); rintro e w2 ⟨v2, rfl, ho, hb⟩; obtain ⟨A2, c2, rfl⟩ := Kd.R_slice ho; have n0_ := Aside0.mk (below_step HB.out hb); have m0_ := Aside0.mk (blk_below BKG0.out hb); clear HB BKG0; have HB := n0_; have BKG0 := m0_; clear n0_ m0_; have HP := Aside0.mk ho; clear ho; clear hb) | (refine gate_dst (N := 5) rfl ?_; refine box_event ?hg (N := 5) ?hd (cs := #[.int .i64 0, .int .i64 0, .int .i64 0, .int .i64 0]) (t := 79) ?hr ?_; (case hd => rfl); (case hg => rfl); (case hr => first | (go_simp; done) | (go_simp; rfl)); intro G5 hg w3 hbox hb; have n0_ := Aside0.mk (below_step HB.out hb); have NE := Aside0.mk (show G0 < G5 by rw [hg]; exact blk_lt BKG0.out); have HG5 := Aside0.mk (show w.heap.size ≤ G5 by rw [hg]; exact HB.out.size); have m0_ := Aside0.mk (blk_below BKG0.out hb); have m1_ := Aside0.mk (Kd.R_below HP.out hb); clear HB BKG0 HP; have HB := n0_; have BKG0 := m0_; have HP := m1_; clear n0_ m0_ m1_; have BKG5 := Aside0.mk hbox; have hc5_0 : w3.cell? ⟨G5, 0, none⟩ = some (.int .i64 0) := (blk_cell BKG5.out 0).trans rfl; have hf5_0 := blk_frozen BKG5.out 0; have hc5_1 : w3.cell? ⟨G5, 1, none⟩ = some (.int .i64 0) := (blk_cell BKG5.out 1).trans rfl; have hf5_1 := blk_frozen BKG5.out 1; have hc5_2 : w3.cell? ⟨G5, 2, none⟩ = some (.int .i64 0) := (blk_cell BKG5.out 2).trans rfl; have hf5_2 := blk_frozen BKG5.out 2; have hc5_3 : w3.cell? ⟨G5, 3, none⟩ = some (.int .i64 0) := (blk_cell BKG5.out 3).trans rfl; have hf5_3 := blk_frozen BKG5.out 3; clear hb hbox hg))
  obtain ⟨S1, S2, S3⟩ := stored4 BKG5.out HB.out HG5.out (.int .i64 0) (.int .i64 0) (.int .i64 0) (.int .i64 0)
  have HBn := Aside0.mk S3
  have BK0n := Aside0.mk (fr_blk BKG0.out S2 (by have := NE.out; omega))
  have HPn := Aside0.mk (fr_R HP.out BKG5.out (by decide) S2)
  have BK5n := Aside0.mk S1
  clear hc5_0 hf5_0 hc5_1 hf5_1 hc5_2 hf5_2 hc5_3 hf5_3
  clear HB BKG0 HP BKG5 S1 S2 S3
  have HB := HBn
  have BKG0 := BK0n
  have HP := HPn
  have BKG5 := BK5n
  clear HBn BK0n HPn BK5n
  generalize ((((w3.setCell ⟨G5, 0, none⟩ (.int .i64 0)).setCell ⟨G5, 1, none⟩ (.int .i64 0)).setCell ⟨G5, 2, none⟩ (.int .i64 0)).setCell ⟨G5, 3, none⟩ (.int .i64 0)) = w4 at HB BKG0 HP BKG5 ⊢
  have hne1 : G0 ≠ G5 := by have := NE.out; omega
  have hne2 : G5 ≠ G0 := by have := NE.out; omega
  by_cases c4 : ps.length = 4
  rotate_left
  · have c4i : ¬ ((ps.length : Int) = 4) := by omega
    have h2 : some (([0, 0, 0, 0] : List Int), false) = some (r, b) := by rw [if_neg c4] at h; exact h
    simp only [Option.some.injEq, Prod.mk.injEq] at h2
    obtain ⟨rfl, rfl⟩ := h2
    have hc5_0 : w4.cell? ⟨G5, 0, none⟩ = some (.int .i64 0) := (blk_cell BKG5.out 0).trans rfl; have hf5_0 := blk_frozen BKG5.out 0; have hc5_1 : w4.cell? ⟨G5, 1, none⟩ = some (.int .i64 0) := (blk_cell BKG5.out 1).trans rfl; have hf5_1 := blk_frozen BKG5.out 1; have hc5_2 : w4.cell? ⟨G5, 2, none⟩ = some (.int .i64 0) := (blk_cell BKG5.out 2).trans rfl; have hf5_2 := blk_frozen BKG5.out 2; have hc5_3 : w4.cell? ⟨G5, 3, none⟩ = some (.int .i64 0) := (blk_cell BKG5.out 3).trans rfl; have hf5_3 := blk_frozen BKG5.out 3
    have hc0_0 : w4.cell? ⟨G0, 0, none⟩ = some (.int .i64 0) := (blk_cell BKG0.out 0).trans rfl; have hf0_0 := blk_frozen BKG0.out 0; have hc0_1 : w4.cell? ⟨G0, 1, none⟩ = some (.int .i64 0) := (blk_cell BKG0.out 1).trans rfl; have hf0_1 := blk_frozen BKG0.out 1; have hc0_2 : w4.cell? ⟨G0, 2, none⟩ = some (.int .i64 0) := (blk_cell BKG0.out 2).trans rfl; have hf0_2 := blk_frozen BKG0.out 2; have hc0_3 : w4.cell? ⟨G0, 3, none⟩ = some (.int .i64 0) := (blk_cell BKG0.out 3).trans rfl; have hf0_3 := blk_frozen BKG0.out 3
    go_wp2
    refine bodyPost_ret (results_ct rfl _ _ G0 79 #[.int .i64 0, .int .i64 0, .int .i64 0, .int .i64 0] (0, 0) _ rfl (blk_put (cs' := #[.int .i64 0, .int .i64 0, .int .i64 0, .int .i64 0]) (blk_put (cs' := #[.int .i64 0, .int .i64 0, .int .i64 0, .int .i64 0]) (blk_put (cs' := #[.int .i64 0, .int .i64 0, .int .i64 0, .int .i64 0]) (blk_put (cs' := #[.int .i64 0, .int .i64 0, .int .i64 0, .int .i64 0]) (BKG0.out) 0 _ rfl) 1 _ rfl) 2 _ rfl) 3 _ rfl) hu79 rfl (by kernel_rfl)) rfl ?_
    exact ⟨rfl, rfl, below_set (below_set (below_set (below_set HB.out HG0.out) HG0.out) HG0.out) HG0.out⟩
  rw [if_pos c4] at h
  have c4i : (ps.length : Int) = 4 := by omega
  go_wp2_with fail
  clear c4i
  go_loopg [6] 4 (fun kq v6 W => ∃ (i o0 o1 o2 o3 : Int), v6 = .int .i64 i ∧ Aside0 (i + kq = 4 ∧ 0 ≤ i) ∧ Aside0 (spec_l2Read.l k ps kq i [o0, o1, o2, o3] = some (r, b)) ∧ Aside0 (W.heap[G5]? = some (.cells #[.int .i64 o0, .int .i64 o1, .int .i64 o2, .int .i64 o3] 79 (0, 0))) ∧ Aside0 (W.heap[G0]? = some (.cells #[.int .i64 0, .int .i64 0, .int .i64 0, .int .i64 0] 79 (0, 0))) ∧ Aside0 (Kd.string.R 9 W w1.heap.size (fun _ => True) (.slice A2 ps.length c2) ps) ∧ Aside0 (Below w.heap.size w W))
  case atStart => exact ⟨0, 0, 0, 0, 0, rfl, ⟨by omega⟩, ⟨h⟩, BKG5, BKG0, HP, HB⟩
  case round =>
    clear HB BKG5 BKG0 HP h
    obtain ⟨i, o0, o1, o2, o3, rfl, HI, HA, BKG5, BKG0, HP, HB⟩ := hrel
    have hi : (gk = 0 ∧ i = 4) ∨ (gk = 4 ∧ i = 0) ∨ (gk = 3 ∧ i = 1) ∨ (gk = 2 ∧ i = 2) ∨ (gk = 1 ∧ i = 3) := by have := HI.out; omega
    clear HI
    rcases hi with ⟨rfl, rfl⟩ | hi
    · have H := HA.out
      simp only [spec_l2Read.l, Option.some.injEq, Prod.mk.injEq] at H
      obtain ⟨rfl, rfl⟩ := H
      have hc5_0 : wr.cell? ⟨G5, 0, none⟩ = some (.int .i64 o0) := (blk_cell BKG5.out 0).trans rfl; have hf5_0 := blk_frozen BKG5.out 0; have hc5_1 : wr.cell? ⟨G5, 1, none⟩ = some (.int .i64 o1) := (blk_cell BKG5.out 1).trans rfl; have hf5_1 := blk_frozen BKG5.out 1; have hc5_2 : wr.cell? ⟨G5, 2, none⟩ = some (.int .i64 o2) := (blk_cell BKG5.out 2).trans rfl; have hf5_2 := blk_frozen BKG5.out 2; have hc5_3 : wr.cell? ⟨G5, 3, none⟩ = some (.int .i64 o3) := (blk_cell BKG5.out 3).trans rfl; have hf5_3 := blk_frozen BKG5.out 3
      have hc0_0 : wr.cell? ⟨G0, 0, none⟩ = some (.int .i64 0) := (blk_cell BKG0.out 0).trans rfl; have hf0_0 := blk_frozen BKG0.out 0; have hc0_1 : wr.cell? ⟨G0, 1, none⟩ = some (.int .i64 0) := (blk_cell BKG0.out 1).trans rfl; have hf0_1 := blk_frozen BKG0.out 1; have hc0_2 : wr.cell? ⟨G0, 2, none⟩ = some (.int .i64 0) := (blk_cell BKG0.out 2).trans rfl; have hf0_2 := blk_frozen BKG0.out 2; have hc0_3 : wr.cell? ⟨G0, 3, none⟩ = some (.int .i64 0) := (blk_cell BKG0.out 3).trans rfl; have hf0_3 := blk_frozen BKG0.out 3
      go_wp2
      refine bodyPost_ret (results_ct rfl _ _ G0 79 #[.int .i64 o0, .int .i64 o1, .int .i64 o2, .int .i64 o3] (0, 0) _ rfl (blk_put (cs' := #[.int .i64 o0, .int .i64 o1, .int .i64 o2, .int .i64 o3]) (blk_put (cs' := #[.int .i64 o0, .int .i64 o1, .int .i64 o2, .int .i64 0]) (blk_put (cs' := #[.int .i64 o0, .int .i64 o1, .int .i64 0, .int .i64 0]) (blk_put (cs' := #[.int .i64 o0, .int .i64 0, .int .i64 0, .int .i64 0]) (BKG0.out) 0 _ rfl) 1 _ rfl) 2 _ rfl) 3 _ rfl) hu79 rfl (by kernel_rfl)) rfl ?_
      exact ⟨rfl, rfl, below_set (below_set (below_set (below_set HB.out HG0.out) HG0.out) HG0.out) HG0.out⟩
    rcases hi with ⟨rfl, rfl⟩ | ⟨rfl, rfl⟩ | ⟨rfl, rfl⟩ | ⟨rfl, rfl⟩
    all_goals (
      have H := HA.out
      clear HA
      simp only [spec_l2Read.l] at H
      obtain ⟨⟨n, okn⟩, A20, H⟩ := Option.bind_eq_some_iff.mp H
      have A2_ := Aside0.mk A20
      clear A20)
    · have q0 : (0 : Int) < (ps.length : Int) := by have := c4; omega
      obtain ⟨ad, ead, hx0⟩ := Kd.at_string (Kd.R_reads' HP.out).2.2 0 (by omega) q0
      cases ead
      clear c4
      simp only [go_sem, Int.reduceToNat, Int.toNat_zero, Int.toNat_one] at hx0
      cases okn with
      | false =>
        have H : some (([0, 0, 0, 0] : List Int), false) = some (r, b) := H
        simp only [Option.some.injEq, Prod.mk.injEq] at H
        obtain ⟨rfl, rfl⟩ := H
        go_wp2_with (first | (go_at_call 46; (with_reducible refine (spec_l1Read.calls k (rdOf ByteArray.empty ps 0) n _ _ A2_.out).mono ?_); rintro e w6 ⟨rfl, hb⟩; have n0_ := Aside0.mk (below_step HB.out hb); have m0_ := Aside0.mk (blk_below BKG0.out hb); have m1_ := Aside0.mk (blk_below BKG5.out hb); have m2_ := Aside0.mk (Kd.R_below HP.out hb); clear HB BKG0 BKG5 HP; have HB := n0_; have BKG0 := m0_; have BKG5 := m1_; have HP := m2_; clear n0_ m0_ m1_ m2_; have hc5_0 : w6.cell? ⟨G5, 0, none⟩ = some (.int .i64 o0) := (blk_cell BKG5.out 0).trans rfl; have hf5_0 := blk_frozen BKG5.out 0; have hc5_1 : w6.cell? ⟨G5, 1, none⟩ = some (.int .i64 o1) := (blk_cell BKG5.out 1).trans rfl; have hf5_1 := blk_frozen BKG5.out 1; have hc5_2 : w6.cell? ⟨G5, 2, none⟩ = some (.int .i64 o2) := (blk_cell BKG5.out 2).trans rfl; have hf5_2 := blk_frozen BKG5.out 2; have hc5_3 : w6.cell? ⟨G5, 3, none⟩ = some (.int .i64 o3) := (blk_cell BKG5.out 3).trans rfl; have hf5_3 := blk_frozen BKG5.out 3; have hc0_0 : w6.cell? ⟨G0, 0, none⟩ = some (.int .i64 0) := (blk_cell BKG0.out 0).trans rfl; have hf0_0 := blk_frozen BKG0.out 0; have hc0_1 : w6.cell? ⟨G0, 1, none⟩ = some (.int .i64 0) := (blk_cell BKG0.out 1).trans rfl; have hf0_1 := blk_frozen BKG0.out 1; have hc0_2 : w6.cell? ⟨G0, 2, none⟩ = some (.int .i64 0) := (blk_cell BKG0.out 2).trans rfl; have hf0_2 := blk_frozen BKG0.out 2; have hc0_3 : w6.cell? ⟨G0, 3, none⟩ = some (.int .i64 0) := (blk_cell BKG0.out 3).trans rfl; have hf0_3 := blk_frozen BKG0.out 3; clear hb))
        refine bodyPost_ret (results_ct rfl _ _ G0 79 #[.int .i64 0, .int .i64 0, .int .i64 0, .int .i64 0] (0, 0) _ rfl (blk_put (cs' := #[.int .i64 0, .int .i64 0, .int .i64 0, .int .i64 0]) (blk_put (cs' := #[.int .i64 0, .int .i64 0, .int .i64 0, .int .i64 0]) (blk_put (cs' := #[.int .i64 0, .int .i64 0, .int .i64 0, .int .i64 0]) (blk_put (cs' := #[.int .i64 0, .int .i64 0, .int .i64 0, .int .i64 0]) (BKG0.out) 0 _ rfl) 1 _ rfl) 2 _ rfl) 3 _ rfl) hu79 rfl (by kernel_rfl)) rfl ?_
        exact ⟨rfl, rfl, below_set (below_set (below_set (below_set HB.out HG0.out) HG0.out) HG0.out) HG0.out⟩
      | true =>
        have H : spec_l2Read.l k ps 3 1 [n, o1, o2, o3] = some (r, b) := H
        have H' := Aside0.mk H
        clear H
        go_wp2_with (first | (go_at_call 46; (with_reducible refine (spec_l1Read.calls k (rdOf ByteArray.empty ps 0) n _ _ A2_.out).mono ?_); rintro e w6 ⟨rfl, hb⟩; have n0_ := Aside0.mk (below_step HB.out hb); have m0_ := Aside0.mk (blk_below BKG0.out hb); have m1_ := Aside0.mk (blk_below BKG5.out hb); have m2_ := Aside0.mk (Kd.R_below HP.out hb); clear HB BKG0 BKG5 HP; have HB := n0_; have BKG0 := m0_; have BKG5 := m1_; have HP := m2_; clear n0_ m0_ m1_ m2_; have hc5_0 : w6.cell? ⟨G5, 0, none⟩ = some (.int .i64 o0) := (blk_cell BKG5.out 0).trans rfl; have hf5_0 := blk_frozen BKG5.out 0; have hc5_1 : w6.cell? ⟨G5, 1, none⟩ = some (.int .i64 o1) := (blk_cell BKG5.out 1).trans rfl; have hf5_1 := blk_frozen BKG5.out 1; have hc5_2 : w6.cell? ⟨G5, 2, none⟩ = some (.int .i64 o2) := (blk_cell BKG5.out 2).trans rfl; have hf5_2 := blk_frozen BKG5.out 2; have hc5_3 : w6.cell? ⟨G5, 3, none⟩ = some (.int .i64 o3) := (blk_cell BKG5.out 3).trans rfl; have hf5_3 := blk_frozen BKG5.out 3; have hc0_0 : w6.cell? ⟨G0, 0, none⟩ = some (.int .i64 0) := (blk_cell BKG0.out 0).trans rfl; have hf0_0 := blk_frozen BKG0.out 0; have hc0_1 : w6.cell? ⟨G0, 1, none⟩ = some (.int .i64 0) := (blk_cell BKG0.out 1).trans rfl; have hf0_1 := blk_frozen BKG0.out 1; have hc0_2 : w6.cell? ⟨G0, 2, none⟩ = some (.int .i64 0) := (blk_cell BKG0.out 2).trans rfl; have hf0_2 := blk_frozen BKG0.out 2; have hc0_3 : w6.cell? ⟨G0, 3, none⟩ = some (.int .i64 0) := (blk_cell BKG0.out 3).trans rfl; have hf0_3 := blk_frozen BKG0.out 3; clear hb))
        go_roundg 3
        case measure => omega
        case rel => exact ⟨1, n, o1, o2, o3, rfl, ⟨by omega⟩, H', ⟨blk_put BKG5.out 0 _ rfl⟩, ⟨blk_far (p := ⟨G5, 0, none⟩) BKG0.out hne1 _⟩, ⟨Kd.R_set HP.out BKG5.out (by decide) _ _⟩, ⟨below_set HB.out HG5.out⟩⟩
    · have q1 : (1 : Int) < (ps.length : Int) := by have := c4; omega
      obtain ⟨ad, ead, hx0⟩ := Kd.at_string (Kd.R_reads' HP.out).2.2 1 (by omega) q1
      cases ead
      clear c4
      simp only [go_sem, Int.reduceToNat, Int.toNat_zero, Int.toNat_one] at hx0
      cases okn with
      | false =>
        have H : some (([0, 0, 0, 0] : List Int), false) = some (r, b) := H
        simp only [Option.some.injEq, Prod.mk.injEq] at H
        obtain ⟨rfl, rfl⟩ := H
        go_wp2_with (first | (go_at_call 46; (with_reducible refine (spec_l1Read.calls k (rdOf ByteArray.empty ps 1) n _ _ A2_.out).mono ?_); rintro e w6 ⟨rfl, hb⟩; have n0_ := Aside0.mk (below_step HB.out hb); have m0_ := Aside0.mk (blk_below BKG0.out hb); have m1_ := Aside0.mk (blk_below BKG5.out hb); have m2_ := Aside0.mk (Kd.R_below HP.out hb); clear HB BKG0 BKG5 HP; have HB := n0_; have BKG0 := m0_; have BKG5 := m1_; have HP := m2_; clear n0_ m0_ m1_ m2_; have hc5_0 : w6.cell? ⟨G5, 0, none⟩ = some (.int .i64 o0) := (blk_cell BKG5.out 0).trans rfl; have hf5_0 := blk_frozen BKG5.out 0; have hc5_1 : w6.cell? ⟨G5, 1, none⟩ = some (.int .i64 o1) := (blk_cell BKG5.out 1).trans rfl; have hf5_1 := blk_frozen BKG5.out 1; have hc5_2 : w6.cell? ⟨G5, 2, none⟩ = some (.int .i64 o2) := (blk_cell BKG5.out 2).trans rfl; have hf5_2 := blk_frozen BKG5.out 2; have hc5_3 : w6.cell? ⟨G5, 3, none⟩ = some (.int .i64 o3) := (blk_cell BKG5.out 3).trans rfl; have hf5_3 := blk_frozen BKG5.out 3; have hc0_0 : w6.cell? ⟨G0, 0, none⟩ = some (.int .i64 0) := (blk_cell BKG0.out 0).trans rfl; have hf0_0 := blk_frozen BKG0.out 0; have hc0_1 : w6.cell? ⟨G0, 1, none⟩ = some (.int .i64 0) := (blk_cell BKG0.out 1).trans rfl; have hf0_1 := blk_frozen BKG0.out 1; have hc0_2 : w6.cell? ⟨G0, 2, none⟩ = some (.int .i64 0) := (blk_cell BKG0.out 2).trans rfl; have hf0_2 := blk_frozen BKG0.out 2; have hc0_3 : w6.cell? ⟨G0, 3, none⟩ = some (.int .i64 0) := (blk_cell BKG0.out 3).trans rfl; have hf0_3 := blk_frozen BKG0.out 3; clear hb))
        refine bodyPost_ret (results_ct rfl _ _ G0 79 #[.int .i64 0, .int .i64 0, .int .i64 0, .int .i64 0] (0, 0) _ rfl (blk_put (cs' := #[.int .i64 0, .int .i64 0, .int .i64 0, .int .i64 0]) (blk_put (cs' := #[.int .i64 0, .int .i64 0, .int .i64 0, .int .i64 0]) (blk_put (cs' := #[.int .i64 0, .int .i64 0, .int .i64 0, .int .i64 0]) (blk_put (cs' := #[.int .i64 0, .int .i64 0, .int .i64 0, .int .i64 0]) (BKG0.out) 0 _ rfl) 1 _ rfl) 2 _ rfl) 3 _ rfl) hu79 rfl (by kernel_rfl)) rfl ?_
        exact ⟨rfl, rfl, below_set (below_set (below_set (below_set HB.out HG0.out) HG0.out) HG0.out) HG0.out⟩
      | true =>
        have H : spec_l2Read.l k ps 2 2 [o0, n, o2, o3] = some (r, b) := H
        have H' := Aside0.mk H
        clear H
        go_wp2_with (first | (go_at_call 46; (with_reducible refine (spec_l1Read.calls k (rdOf ByteArray.empty ps 1) n _ _ A2_.out).mono ?_); rintro e w6 ⟨rfl, hb⟩; have n0_ := Aside0.mk (below_step HB.out hb); have m0_ := Aside0.mk (blk_below BKG0.out hb); have m1_ := Aside0.mk (blk_below BKG5.out hb); have m2_ := Aside0.mk (Kd.R_below HP.out hb); clear HB BKG0 BKG5 HP; have HB := n0_; have BKG0 := m0_; have BKG5 := m1_; have HP := m2_; clear n0_ m0_ m1_ m2_; have hc5_0 : w6.cell? ⟨G5, 0, none⟩ = some (.int .i64 o0) := (blk_cell BKG5.out 0).trans rfl; have hf5_0 := blk_frozen BKG5.out 0; have hc5_1 : w6.cell? ⟨G5, 1, none⟩ = some (.int .i64 o1) := (blk_cell BKG5.out 1).trans rfl; have hf5_1 := blk_frozen BKG5.out 1; have hc5_2 : w6.cell? ⟨G5, 2, none⟩ = some (.int .i64 o2) := (blk_cell BKG5.out 2).trans rfl; have hf5_2 := blk_frozen BKG5.out 2; have hc5_3 : w6.cell? ⟨G5, 3, none⟩ = some (.int .i64 o3) := (blk_cell BKG5.out 3).trans rfl; have hf5_3 := blk_frozen BKG5.out 3; have hc0_0 : w6.cell? ⟨G0, 0, none⟩ = some (.int .i64 0) := (blk_cell BKG0.out 0).trans rfl; have hf0_0 := blk_frozen BKG0.out 0; have hc0_1 : w6.cell? ⟨G0, 1, none⟩ = some (.int .i64 0) := (blk_cell BKG0.out 1).trans rfl; have hf0_1 := blk_frozen BKG0.out 1; have hc0_2 : w6.cell? ⟨G0, 2, none⟩ = some (.int .i64 0) := (blk_cell BKG0.out 2).trans rfl; have hf0_2 := blk_frozen BKG0.out 2; have hc0_3 : w6.cell? ⟨G0, 3, none⟩ = some (.int .i64 0) := (blk_cell BKG0.out 3).trans rfl; have hf0_3 := blk_frozen BKG0.out 3; clear hb))
        go_roundg 2
        case measure => omega
        case rel => exact ⟨2, o0, n, o2, o3, rfl, ⟨by omega⟩, H', ⟨blk_put BKG5.out 1 _ rfl⟩, ⟨blk_far (p := ⟨G5, 1, none⟩) BKG0.out hne1 _⟩, ⟨Kd.R_set HP.out BKG5.out (by decide) _ _⟩, ⟨below_set HB.out HG5.out⟩⟩
    · have q2 : (2 : Int) < (ps.length : Int) := by have := c4; omega
      obtain ⟨ad, ead, hx0⟩ := Kd.at_string (Kd.R_reads' HP.out).2.2 2 (by omega) q2
      cases ead
      clear c4
      simp only [go_sem, Int.reduceToNat, Int.toNat_zero, Int.toNat_one] at hx0
      cases okn with
      | false =>
        have H : some (([0, 0, 0, 0] : List Int), false) = some (r, b) := H
        simp only [Option.some.injEq, Prod.mk.injEq] at H
        obtain ⟨rfl, rfl⟩ := H
        go_wp2_with (first | (go_at_call 46; (with_reducible refine (spec_l1Read.calls k (rdOf ByteArray.empty ps 2) n _ _ A2_.out).mono ?_); rintro e w6 ⟨rfl, hb⟩; have n0_ := Aside0.mk (below_step HB.out hb); have m0_ := Aside0.mk (blk_below BKG0.out hb); have m1_ := Aside0.mk (blk_below BKG5.out hb); have m2_ := Aside0.mk (Kd.R_below HP.out hb); clear HB BKG0 BKG5 HP; have HB := n0_; have BKG0 := m0_; have BKG5 := m1_; have HP := m2_; clear n0_ m0_ m1_ m2_; have hc5_0 : w6.cell? ⟨G5, 0, none⟩ = some (.int .i64 o0) := (blk_cell BKG5.out 0).trans rfl; have hf5_0 := blk_frozen BKG5.out 0; have hc5_1 : w6.cell? ⟨G5, 1, none⟩ = some (.int .i64 o1) := (blk_cell BKG5.out 1).trans rfl; have hf5_1 := blk_frozen BKG5.out 1; have hc5_2 : w6.cell? ⟨G5, 2, none⟩ = some (.int .i64 o2) := (blk_cell BKG5.out 2).trans rfl; have hf5_2 := blk_frozen BKG5.out 2; have hc5_3 : w6.cell? ⟨G5, 3, none⟩ = some (.int .i64 o3) := (blk_cell BKG5.out 3).trans rfl; have hf5_3 := blk_frozen BKG5.out 3; have hc0_0 : w6.cell? ⟨G0, 0, none⟩ = some (.int .i64 0) := (blk_cell BKG0.out 0).trans rfl; have hf0_0 := blk_frozen BKG0.out 0; have hc0_1 : w6.cell? ⟨G0, 1, none⟩ = some (.int .i64 0) := (blk_cell BKG0.out 1).trans rfl; have hf0_1 := blk_frozen BKG0.out 1; have hc0_2 : w6.cell? ⟨G0, 2, none⟩ = some (.int .i64 0) := (blk_cell BKG0.out 2).trans rfl; have hf0_2 := blk_frozen BKG0.out 2; have hc0_3 : w6.cell? ⟨G0, 3, none⟩ = some (.int .i64 0) := (blk_cell BKG0.out 3).trans rfl; have hf0_3 := blk_frozen BKG0.out 3; clear hb))
        refine bodyPost_ret (results_ct rfl _ _ G0 79 #[.int .i64 0, .int .i64 0, .int .i64 0, .int .i64 0] (0, 0) _ rfl (blk_put (cs' := #[.int .i64 0, .int .i64 0, .int .i64 0, .int .i64 0]) (blk_put (cs' := #[.int .i64 0, .int .i64 0, .int .i64 0, .int .i64 0]) (blk_put (cs' := #[.int .i64 0, .int .i64 0, .int .i64 0, .int .i64 0]) (blk_put (cs' := #[.int .i64 0, .int .i64 0, .int .i64 0, .int .i64 0]) (BKG0.out) 0 _ rfl) 1 _ rfl) 2 _ rfl) 3 _ rfl) hu79 rfl (by kernel_rfl)) rfl ?_
        exact ⟨rfl, rfl, below_set (below_set (below_set (below_set HB.out HG0.out) HG0.out) HG0.out) HG0.out⟩
      | true =>
        have H : spec_l2Read.l k ps 1 3 [o0, o1, n, o3] = some (r, b) := H
        have H' := Aside0.mk H
        clear H
        go_wp2_with (first | (go_at_call 46; (with_reducible refine (spec_l1Read.calls k (rdOf ByteArray.empty ps 2) n _ _ A2_.out).mono ?_); rintro e w6 ⟨rfl, hb⟩; have n0_ := Aside0.mk (below_step HB.out hb); have m0_ := Aside0.mk (blk_below BKG0.out hb); have m1_ := Aside0.mk (blk_below BKG5.out hb); have m2_ := Aside0.mk (Kd.R_below HP.out hb); clear HB BKG0 BKG5 HP; have HB := n0_; have BKG0 := m0_; have BKG5 := m1_; have HP := m2_; clear n0_ m0_ m1_ m2_; have hc5_0 : w6.cell? ⟨G5, 0, none⟩ = some (.int .i64 o0) := (blk_cell BKG5.out 0).trans rfl; have hf5_0 := blk_frozen BKG5.out 0; have hc5_1 : w6.cell? ⟨G5, 1, none⟩ = some (.int .i64 o1) := (blk_cell BKG5.out 1).trans rfl; have hf5_1 := blk_frozen BKG5.out 1; have hc5_2 : w6.cell? ⟨G5, 2, none⟩ = some (.int .i64 o2) := (blk_cell BKG5.out 2).trans rfl; have hf5_2 := blk_frozen BKG5.out 2; have hc5_3 : w6.cell? ⟨G5, 3, none⟩ = some (.int .i64 o3) := (blk_cell BKG5.out 3).trans rfl; have hf5_3 := blk_frozen BKG5.out 3; have hc0_0 : w6.cell? ⟨G0, 0, none⟩ = some (.int .i64 0) := (blk_cell BKG0.out 0).trans rfl; have hf0_0 := blk_frozen BKG0.out 0; have hc0_1 : w6.cell? ⟨G0, 1, none⟩ = some (.int .i64 0) := (blk_cell BKG0.out 1).trans rfl; have hf0_1 := blk_frozen BKG0.out 1; have hc0_2 : w6.cell? ⟨G0, 2, none⟩ = some (.int .i64 0) := (blk_cell BKG0.out 2).trans rfl; have hf0_2 := blk_frozen BKG0.out 2; have hc0_3 : w6.cell? ⟨G0, 3, none⟩ = some (.int .i64 0) := (blk_cell BKG0.out 3).trans rfl; have hf0_3 := blk_frozen BKG0.out 3; clear hb))
        go_roundg 1
        case measure => omega
        case rel => exact ⟨3, o0, o1, n, o3, rfl, ⟨by omega⟩, H', ⟨blk_put BKG5.out 2 _ rfl⟩, ⟨blk_far (p := ⟨G5, 2, none⟩) BKG0.out hne1 _⟩, ⟨Kd.R_set HP.out BKG5.out (by decide) _ _⟩, ⟨below_set HB.out HG5.out⟩⟩
    · have q3 : (3 : Int) < (ps.length : Int) := by have := c4; omega
      obtain ⟨ad, ead, hx0⟩ := Kd.at_string (Kd.R_reads' HP.out).2.2 3 (by omega) q3
      cases ead
      clear c4
      simp only [go_sem, Int.reduceToNat, Int.toNat_zero, Int.toNat_one] at hx0
      cases okn with
      | false =>
        have H : some (([0, 0, 0, 0] : List Int), false) = some (r, b) := H
        simp only [Option.some.injEq, Prod.mk.injEq] at H
        obtain ⟨rfl, rfl⟩ := H
        go_wp2_with (first | (go_at_call 46; (with_reducible refine (spec_l1Read.calls k (rdOf ByteArray.empty ps 3) n _ _ A2_.out).mono ?_); rintro e w6 ⟨rfl, hb⟩; have n0_ := Aside0.mk (below_step HB.out hb); have m0_ := Aside0.mk (blk_below BKG0.out hb); have m1_ := Aside0.mk (blk_below BKG5.out hb); have m2_ := Aside0.mk (Kd.R_below HP.out hb); clear HB BKG0 BKG5 HP; have HB := n0_; have BKG0 := m0_; have BKG5 := m1_; have HP := m2_; clear n0_ m0_ m1_ m2_; have hc5_0 : w6.cell? ⟨G5, 0, none⟩ = some (.int .i64 o0) := (blk_cell BKG5.out 0).trans rfl; have hf5_0 := blk_frozen BKG5.out 0; have hc5_1 : w6.cell? ⟨G5, 1, none⟩ = some (.int .i64 o1) := (blk_cell BKG5.out 1).trans rfl; have hf5_1 := blk_frozen BKG5.out 1; have hc5_2 : w6.cell? ⟨G5, 2, none⟩ = some (.int .i64 o2) := (blk_cell BKG5.out 2).trans rfl; have hf5_2 := blk_frozen BKG5.out 2; have hc5_3 : w6.cell? ⟨G5, 3, none⟩ = some (.int .i64 o3) := (blk_cell BKG5.out 3).trans rfl; have hf5_3 := blk_frozen BKG5.out 3; have hc0_0 : w6.cell? ⟨G0, 0, none⟩ = some (.int .i64 0) := (blk_cell BKG0.out 0).trans rfl; have hf0_0 := blk_frozen BKG0.out 0; have hc0_1 : w6.cell? ⟨G0, 1, none⟩ = some (.int .i64 0) := (blk_cell BKG0.out 1).trans rfl; have hf0_1 := blk_frozen BKG0.out 1; have hc0_2 : w6.cell? ⟨G0, 2, none⟩ = some (.int .i64 0) := (blk_cell BKG0.out 2).trans rfl; have hf0_2 := blk_frozen BKG0.out 2; have hc0_3 : w6.cell? ⟨G0, 3, none⟩ = some (.int .i64 0) := (blk_cell BKG0.out 3).trans rfl; have hf0_3 := blk_frozen BKG0.out 3; clear hb))
        refine bodyPost_ret (results_ct rfl _ _ G0 79 #[.int .i64 0, .int .i64 0, .int .i64 0, .int .i64 0] (0, 0) _ rfl (blk_put (cs' := #[.int .i64 0, .int .i64 0, .int .i64 0, .int .i64 0]) (blk_put (cs' := #[.int .i64 0, .int .i64 0, .int .i64 0, .int .i64 0]) (blk_put (cs' := #[.int .i64 0, .int .i64 0, .int .i64 0, .int .i64 0]) (blk_put (cs' := #[.int .i64 0, .int .i64 0, .int .i64 0, .int .i64 0]) (BKG0.out) 0 _ rfl) 1 _ rfl) 2 _ rfl) 3 _ rfl) hu79 rfl (by kernel_rfl)) rfl ?_
        exact ⟨rfl, rfl, below_set (below_set (below_set (below_set HB.out HG0.out) HG0.out) HG0.out) HG0.out⟩
      | true =>
        have H : spec_l2Read.l k ps 0 4 [o0, o1, o2, n] = some (r, b) := H
        have H' := Aside0.mk H
        clear H
        go_wp2_with (first | (go_at_call 46; (with_reducible refine (spec_l1Read.calls k (rdOf ByteArray.empty ps 3) n _ _ A2_.out).mono ?_); rintro e w6 ⟨rfl, hb⟩; have n0_ := Aside0.mk (below_step HB.out hb); have m0_ := Aside0.mk (blk_below BKG0.out hb); have m1_ := Aside0.mk (blk_below BKG5.out hb); have m2_ := Aside0.mk (Kd.R_below HP.out hb); clear HB BKG0 BKG5 HP; have HB := n0_; have BKG0 := m0_; have BKG5 := m1_; have HP := m2_; clear n0_ m0_ m1_ m2_; have hc5_0 : w6.cell? ⟨G5, 0, none⟩ = some (.int .i64 o0) := (blk_cell BKG5.out 0).trans rfl; have hf5_0 := blk_frozen BKG5.out 0; have hc5_1 : w6.cell? ⟨G5, 1, none⟩ = some (.int .i64 o1) := (blk_cell BKG5.out 1).trans rfl; have hf5_1 := blk_frozen BKG5.out 1; have hc5_2 : w6.cell? ⟨G5, 2, none⟩ = some (.int .i64 o2) := (blk_cell BKG5.out 2).trans rfl; have hf5_2 := blk_frozen BKG5.out 2; have hc5_3 : w6.cell? ⟨G5, 3, none⟩ = some (.int .i64 o3) := (blk_cell BKG5.out 3).trans rfl; have hf5_3 := blk_frozen BKG5.out 3; have hc0_0 : w6.cell? ⟨G0, 0, none⟩ = some (.int .i64 0) := (blk_cell BKG0.out 0).trans rfl; have hf0_0 := blk_frozen BKG0.out 0; have hc0_1 : w6.cell? ⟨G0, 1, none⟩ = some (.int .i64 0) := (blk_cell BKG0.out 1).trans rfl; have hf0_1 := blk_frozen BKG0.out 1; have hc0_2 : w6.cell? ⟨G0, 2, none⟩ = some (.int .i64 0) := (blk_cell BKG0.out 2).trans rfl; have hf0_2 := blk_frozen BKG0.out 2; have hc0_3 : w6.cell? ⟨G0, 3, none⟩ = some (.int .i64 0) := (blk_cell BKG0.out 3).trans rfl; have hf0_3 := blk_frozen BKG0.out 3; clear hb))
        go_roundg 0
        case measure => omega
        case rel => exact ⟨4, o0, o1, o2, n, rfl, ⟨by omega⟩, H', ⟨blk_put BKG5.out 3 _ rfl⟩, ⟨blk_far (p := ⟨G5, 3, none⟩) BKG0.out hne1 _⟩, ⟨Kd.R_set HP.out BKG5.out (by decide) _ _⟩, ⟨below_set HB.out HG5.out⟩⟩
end Go.Proofs.YtbdbogpmnmcaeaaDoor.PFnExactParseCase
