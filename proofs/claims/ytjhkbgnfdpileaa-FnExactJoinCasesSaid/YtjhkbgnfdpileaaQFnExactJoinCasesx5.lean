/- slices.Grow of a nil slice and slices.Concat of two rows of whole numbers: what they answer. Conditions: few elements; the rows are there. -/
import Derived.Test.YtjhkbgnfdpileaaPFnExactJoinCasesx4
import Derived.Deep.RegionLaw
import Derived.Test.YtjhkbgnfdpileaaHold
namespace Go.Proofs.Ytjhkbgnfdpileaa.PFnExactJoinCases
open Go.RowKit Go.Proofs.YtjhkbgnfdpileaaW.PrintWords Go.Proofs.YtjhkbgnfdpileaaW.PrintLast Go.Proofs.YtjhkbgnfdpileaaW.PrintMore Go.Proofs.Ytjhkbgnfdpileaa.Hold
set_option linter.unusedVariables false
set_option linter.unusedSimpArgs false
theorem Cat.cut0 {w : World} {B : Nat} {ok : Nat → Prop} {A : Option Addr} {n c : Nat} {xs : List Int} (h : Kd.R (Kd.int .i64) 3 w B ok (.slice A n c) xs) : Kd.R (Kd.int .i64) 3 w B ok (.slice A 0 c) [] := by
  have ho := Kd.own_of_R (h1 := fun _ => rfl) h
  have h0 := h.1
  refine Kd.R_of_own (h1 := fun _ => rfl) (xs := []) ⟨by simp [encs], ?_⟩ (fun k hk => h0 k (by cases A with | none => simp [Value.ownBlock] at hk | some a => exact hk))
  rcases ho.2 with ⟨e, _⟩ | ⟨g, cap, cur, e, hb, hg, hnc, hcm, hcs, _⟩
  · injection e with e1 e2 e3
    subst e1 e3
    exact .inl ⟨rfl, rfl⟩
  · injection e with e1 e2 e3
    subst e1 e3
    exact .inr ⟨g, c, cur, rfl, hb, hg, Nat.zero_le _, hcm, hcs, by simp [encs]⟩
set_option maxHeartbeats 2000000 in
set_option maxRecDepth 100000 in
theorem slices_Grow.calls (n : Nat) (w : World) (hn : n ≤ 1000) :
    Calls Try.prog 28 #[.slice none 0 0, .int .i64 n] w fun e w' => ∃ v : Value, e = .returned v ∧ Kd.R (Kd.int .i64) 3 w' w.heap.size (fun _ => True) v [] ∧ Below w.heap.size w w' := by
  have n0 : (0 : Int) ≤ (n : Int) := by omega
  have n1 : (n : Int) ≤ 1000 := by omega
  have hw : IntKind.i64.wrap (n : Int) = n := (i64_w _).trans (by unfold wrap64; omega)
  by_cases c : n = 0
  · subst c
    go_enter Try.func28, Try.ntmps28
    go_wp2
    go_ret
    exact ⟨_, rfl, Kd.R_nil _ _ _ _ _, Below.refl _ _⟩
  · have c1 : (0 : Int) < (n : Int) := by omega
    go_enter Try.func28, Try.ntmps28
    go_wp2_with (at_builtin; refine Kd.R_append_zeros (Kd.int .i64) (w0 := w) w.heap.size rfl (.tmp 20) (.tmp 21) 22 3 3 (.int .i64 0) 8 rfl Try.underlying22 Try.underlying3 info3 rfl (by decide) (by omega) (.slice none 0 0) [] 0 (kx := .i64) (n : Int) (fun _ => True) rfl rfl ?z (fun _ _ => trivial) (Kd.R_nil _ _ _ _ _) n0 (Below.refl _ _) (Nat.le_refl _) (by simp; omega) ?_; (case z => first | rfl | exact ⟨rfl, trivial⟩ | simp [Kd.M, Kd.int]); intro v1 w1 ho hb hg hat; obtain ⟨A1, c1_, rfl⟩ := Kd.R_slice ho; have e_ : ([] ++ List.replicate (n : Int).toNat (0 : Int)).length = n := (by simp); rw [e_] at ho ⊢; have HO := Aside0.mk ho; have HB := Aside0.mk hb; have hq : (n : Int) ≤ (c1_ : Int) := (by have := (Kd.R_reads' ho).2.1; omega); clear ho hb hg hat e_)
    go_ret
    exact ⟨_, rfl, Cat.cut0 HO.out, HB.out⟩
set_option maxHeartbeats 4000000 in
set_option maxRecDepth 100000 in
theorem slices_Concat.calls (A1 A2 : Option Addr) (c1 c2 : Nat) (l1 l2 : List Int) (g0 : Nat) (w : World) (hg : w.heap[g0]? = some (.cells #[.slice A1 l1.length c1, .slice A2 l2.length c2] 22 (0, 0)))
    (h1 : Kd.C (Kd.int .i64) w A1 l1.length l1) (hc1 : l1.length ≤ c1) (h2 : Kd.C (Kd.int .i64) w A2 l2.length l2) (hc2 : l2.length ≤ c2) (hl : l1.length + l2.length ≤ 1000) :
    Calls Try.prog 24 #[.slice (some ⟨g0, 0, none⟩) 2 2] w fun e w' => ∃ v : Value, e = .returned v ∧ Kd.R (Kd.int .i64) 3 w' w.heap.size (fun _ => True) v (l1 ++ l2) ∧ Below w.heap.size w w' := by
  have H1 := Aside0.mk h1
  have H2 := Aside0.mk h2
  have HC1 := Aside0.mk hc1
  have HC2 := Aside0.mk hc2
  have HG := Aside0.mk hg
  have hq0 : w.cell? ⟨g0, 0, none⟩ = some (.slice A1 l1.length c1) := (blk_cell hg 0).trans rfl
  have hq1 : w.cell? ⟨g0, 1, none⟩ = some (.slice A2 l2.length c2) := (blk_cell hg 1).trans rfl
  clear h1 hc1 h2 hc2 hg
  have m1 : (0 : Int) ≤ (l1.length : Int) := by omega
  have m2 : (l1.length : Int) + (l2.length : Int) ≤ 1000 := by omega
  have m3 : (0 : Int) ≤ (l2.length : Int) := by omega
  have m4 : IntKind.i64.wrap ((l1.length : Int) + (l2.length : Int)) = (l1.length : Int) + (l2.length : Int) := (i64_w _).trans (by unfold wrap64; omega)
  have m5 : decide (((l1.length : Int) + (l2.length : Int)) < 0) = false := decide_eq_false (by omega)
  have m6 : decide ((l1.length : Int) < 0) = false := decide_eq_false (by omega)
  go_enter Try.func24, Try.ntmps24
  go_wp2_with fail
  go_loopg [3, 11] 2 (fun kq v3 v11 W => Aside0 (W = w) ∧ ((v11 = .int .i64 0 ∧ v3 = .int .i64 0 ∧ kq = 2) ∨ (v11 = .int .i64 1 ∧ v3 = .int .i64 (l1.length : Int) ∧ kq = 1) ∨ (v11 = .int .i64 2 ∧ v3 = .int .i64 ((l1.length : Int) + (l2.length : Int)) ∧ kq = 0)))
  case atStart => exact ⟨⟨rfl⟩, .inl ⟨rfl, rfl, rfl⟩⟩
  case round =>
    obtain ⟨HW, ⟨rfl, rfl, rfl⟩ | ⟨rfl, rfl, rfl⟩ | ⟨rfl, rfl, rfl⟩⟩ := hrel
    · obtain rfl := HW.out.symm
      clear HW
      go_wp2_with fail
      go_roundg 1
      case measure => omega
      case rel => exact ⟨⟨rfl⟩, .inr (.inl ⟨by first | rfl | (simp; done), by first | rfl | (simp; done), rfl⟩)⟩
    · obtain rfl := HW.out.symm
      clear HW
      go_wp2_with fail
      go_roundg 0
      case measure => omega
      case rel => exact ⟨⟨rfl⟩, .inr (.inr ⟨by first | rfl | (simp; done), by first | rfl | (simp; done), rfl⟩)⟩
    · obtain rfl := HW.out.symm
      clear HW
      go_wp2_with fail
      have KG := slices_Grow.calls (l1.length + l2.length) w (by omega)
      rw [Int.natCast_add] at KG
      refine KG.mono ?_
      rintro e w2 ⟨v2, rfl, ho, hb⟩
      have HV := Aside0.mk ho
      have HB := Aside0.mk hb
      clear ho hb KG
      go_wp2_with fail
      clear hq0 hq1
      go_loopg [6, 27] 2 (fun kq v6 v27 W => ∃ v : Value, v6 = v ∧ Aside0 (Below w.heap.size w W) ∧ ((v27 = .int .i64 0 ∧ kq = 2 ∧ Aside0 (Kd.R (Kd.int .i64) 3 W w.heap.size (fun _ => True) v [])) ∨ (v27 = .int .i64 1 ∧ kq = 1 ∧ Aside0 (Kd.R (Kd.int .i64) 3 W w.heap.size (fun _ => True) v l1)) ∨ (v27 = .int .i64 2 ∧ kq = 0 ∧ Aside0 (Kd.R (Kd.int .i64) 3 W w.heap.size (fun _ => True) v (l1 ++ l2)))))
      case atStart => exact ⟨_, rfl, HB, .inl ⟨rfl, rfl, HV⟩⟩
      case round =>
        clear HV HB
        obtain ⟨v, rfl, HB, ⟨rfl, rfl, HV⟩ | ⟨rfl, rfl, HV⟩ | ⟨rfl, rfl, HV⟩⟩ := hrel
        · obtain ⟨Av, cv, rfl⟩ := Kd.R_slice HV.out
          have hz0 : wr.cell? ⟨g0, 0, none⟩ = some (.slice A1 l1.length c1) := (blk_cell (blk_below HG.out HB.out) 0).trans rfl
          go_wp2_with (at_builtin; refine Kd.R_append_rows (Kd.int .i64) (w0 := w) w.heap.size rfl (.tmp 31) (.tmp 32) 22 3 (.int .i64 0) 8 rfl Try.underlying22 info3 rfl (by decide) (by omega) _ [] l1 _ _ _ (fun _ => True) (fun _ => False) rfl rfl HV.out (Kd.C_below H1.out HB.out) (fun _ _ h => h) (fun _ h => h.elim) (fun _ _ => trivial) HB.out HB.out.size (by first | omega | (simp; omega)) ?_; intro v5 w5 ho hb hg hat; have HV5 := Aside0.mk ho; have HB5 := Aside0.mk hb; clear ho hb hg hat)
          go_roundg 1
          case measure => omega
          case rel => exact ⟨_, rfl, HB5, .inr (.inl ⟨by first | rfl | (simp; done), rfl, by first | exact HV5 | exact ⟨by simpa using HV5.out⟩⟩)⟩
        · obtain ⟨Av, cv, rfl⟩ := Kd.R_slice HV.out
          have hz0 : wr.cell? ⟨g0, 1, none⟩ = some (.slice A2 l2.length c2) := (blk_cell (blk_below HG.out HB.out) 1).trans rfl
          go_wp2_with (at_builtin; refine Kd.R_append_rows (Kd.int .i64) (w0 := w) w.heap.size rfl (.tmp 31) (.tmp 32) 22 3 (.int .i64 0) 8 rfl Try.underlying22 info3 rfl (by decide) (by omega) _ l1 l2 _ _ _ (fun _ => True) (fun _ => False) rfl rfl HV.out (Kd.C_below H2.out HB.out) (fun _ _ h => h) (fun _ h => h.elim) (fun _ _ => trivial) HB.out HB.out.size (by first | omega | (simp; omega)) ?_; intro v5 w5 ho hb hg hat; have HV5 := Aside0.mk ho; have HB5 := Aside0.mk hb; clear ho hb hg hat)
          go_roundg 0
          case measure => omega
          case rel => exact ⟨_, rfl, HB5, .inr (.inr ⟨by first | rfl | (simp; done), rfl, HV5⟩)⟩
        · obtain ⟨Av, cv, rfl⟩ := Kd.R_slice HV.out
          have HV2 := HV.out
          rw [List.length_append] at HV2
          have HV3 := Aside0.mk HV2
          clear HV2
          go_wp2_with fail
          go_ret
          exact ⟨_, rfl, HV3.out, HB.out⟩
end Go.Proofs.Ytjhkbgnfdpileaa.PFnExactJoinCases
