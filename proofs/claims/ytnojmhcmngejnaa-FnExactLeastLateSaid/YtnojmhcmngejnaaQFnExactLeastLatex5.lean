/- Written by a program of this session (inject.py) with the help of the kit's print: contracts of the law's functions, each a plain Lean function and the proof that the machine's call answers it; the functions with function values are walked by hand. -/
import Derived.Test.YtnojmhcmngejnaaQFnExactLeastLatex0
import Derived.Test.YtnojmhcmngejnaaQFnExactLeastLatex4
namespace Go.Proofs.Ytnojmhcmngejnaa.PFnExactLeastLate
open Go.RowKit Go.Proofs.YtnojmhcmngejnaaW.PrintWords Go.Proofs.YtnojmhcmngejnaaW.PrintLast Go.Proofs.YtnojmhcmngejnaaW.PrintMore
attribute [local go_sem] max2_int min2_int max_two min_two max_three min_three max_four min_four   -- for this text's walks alone
set_option linter.unusedVariables false
set_option linter.unusedSimpArgs false

/-! ### impl_Case_late: function 74 -/
def impl_Case_late.f (l0_0 : List Int) (l0_1 : List Int) (l0_2 : List Int) (l0_3 : List Int) (l1 : List Int) (a2 : Int) (a3 : Int) (a4 : Int) : Option (Int) := if 0 ≤ a2 then (if a2 < (l0_2.length : Int) then (if a2 < (l0_3.length : Int) then (if a2 < (l1.length : Int) then (if a3 > 0 then (if a2 < (l0_1.length : Int) then (some (wrap64 ((wrap64 ((wrap64 ((wrap64 ((rd l0_2 a2) * a3)) + (wrap64 ((rd l0_3 a2) * (mx 0 a4))))) + (wrap64 ((rd l1 a2) * (mx 0 (wrap64 (-a4))))))) + (rd l0_1 a2)))) else (none)) else (some (wrap64 ((wrap64 ((wrap64 ((rd l0_2 a2) * a3)) + (wrap64 ((rd l0_3 a2) * (mx 0 a4))))) + (wrap64 ((rd l1 a2) * (mx 0 (wrap64 (-a4))))))))) else (none)) else (none)) else (none)) else (none)
set_option maxHeartbeats 8000000 in
set_option maxRecDepth 100000 in
theorem impl_Case_late.calls (A0_0 : Option Addr) (c0_0 : Nat) (l0_0 : List Int) (A0_1 : Option Addr) (c0_1 : Nat) (l0_1 : List Int) (A0_2 : Option Addr) (c0_2 : Nat) (l0_2 : List Int) (A0_3 : Option Addr) (c0_3 : Nat) (l0_3 : List Int) (A1 : Option Addr) (c1 : Nat) (l1 : List Int) (a2 : Int) (a3 : Int) (a4 : Int) (r : Int) (w : World) (hr0_0 : Kd.C (Kd.int .i64) w A0_0 l0_0.length l0_0) (hc0_0 : l0_0.length ≤ c0_0) (hr0_1 : Kd.C (Kd.int .i64) w A0_1 l0_1.length l0_1) (hc0_1 : l0_1.length ≤ c0_1) (hr0_2 : Kd.C (Kd.int .i64) w A0_2 l0_2.length l0_2) (hc0_2 : l0_2.length ≤ c0_2) (hr0_3 : Kd.C (Kd.int .i64) w A0_3 l0_3.length l0_3) (hc0_3 : l0_3.length ≤ c0_3) (hr1 : Kd.C (Kd.int .i64) w A1 l1.length l1) (hc1 : l1.length ≤ c1) (h : impl_Case_late.f l0_0 l0_1 l0_2 l0_3 l1 a2 a3 a4 = some r) :
    Calls Try.prog 74 #[.agg #[.slice A0_0 l0_0.length c0_0, .slice A0_1 l0_1.length c0_1, .slice A0_2 l0_2.length c0_2, .slice A0_3 l0_3.length c0_3], .slice A1 l1.length c1, .int .i64 a2, .int .i64 a3, .int .i64 a4] w fun e w' => e = .returned (.int .i64 r) ∧ Below w.heap.size w w' := by
  have hu45 := Try.underlying45
  have HR0_0 := Aside0.mk hr0_0
  have HC0_0 := Aside0.mk hc0_0
  clear hr0_0 hc0_0
  have HR0_1 := Aside0.mk hr0_1
  have HC0_1 := Aside0.mk hc0_1
  clear hr0_1 hc0_1
  have HR0_2 := Aside0.mk hr0_2
  have HC0_2 := Aside0.mk hc0_2
  clear hr0_2 hc0_2
  have HR0_3 := Aside0.mk hr0_3
  have HC0_3 := Aside0.mk hc0_3
  clear hr0_3 hc0_3
  have HR1 := Aside0.mk hr1
  have HC1 := Aside0.mk hc1
  clear hr1 hc1
  have HB := Aside0.mk (Below.refl w.heap.size w)
  have H : (if 0 ≤ a2 then (if a2 < (l0_2.length : Int) then (if a2 < (l0_3.length : Int) then (if a2 < (l1.length : Int) then (if a3 > 0 then (if a2 < (l0_1.length : Int) then (some (wrap64 ((wrap64 ((wrap64 ((wrap64 ((rd l0_2 a2) * a3)) + (wrap64 ((rd l0_3 a2) * (mx 0 a4))))) + (wrap64 ((rd l1 a2) * (mx 0 (wrap64 (-a4))))))) + (rd l0_1 a2)))) else (none)) else (some (wrap64 ((wrap64 ((wrap64 ((rd l0_2 a2) * a3)) + (wrap64 ((rd l0_3 a2) * (mx 0 a4))))) + (wrap64 ((rd l1 a2) * (mx 0 (wrap64 (-a4))))))))) else (none)) else (none)) else (none)) else (none)) = some r := h
  clear h
  by_cases c6 : 0 ≤ a2
  · rw [if_pos c6] at H
    have c6b0 : decide (0 ≤ a2) = true := decide_eq_true c6
    clear c6
    by_cases c7 : a2 < (l0_2.length : Int)
    · rw [if_pos c7] at H
      have c7b0 : decide (a2 < (l0_2.length : Int)) = true := decide_eq_true c7
      clear c7
      by_cases c8 : a2 < (l0_3.length : Int)
      · rw [if_pos c8] at H
        have c8b0 : decide (a2 < (l0_3.length : Int)) = true := decide_eq_true c8
        clear c8
        obtain ⟨ji9, hji9⟩ : ∃ j_ : Int, (mx 0 a4) = j_ := ⟨_, rfl⟩
        replace H : (if a2 < (l1.length : Int) then (if a3 > 0 then (if a2 < (l0_1.length : Int) then (some (wrap64 ((wrap64 ((wrap64 ((wrap64 ((rd l0_2 a2) * a3)) + (wrap64 ((rd l0_3 a2) * (ji9))))) + (wrap64 ((rd l1 a2) * (mx 0 (wrap64 (-a4))))))) + (rd l0_1 a2)))) else (none)) else (some (wrap64 ((wrap64 ((wrap64 ((rd l0_2 a2) * a3)) + (wrap64 ((rd l0_3 a2) * (ji9))))) + (wrap64 ((rd l1 a2) * (mx 0 (wrap64 (-a4))))))))) else (none)) = some r := by first | (rw [hji9] at H; exact H) | (simp only [hji9] at H ⊢; exact H)
        (try (have hji9l : 0 ≤ ji9 := by (rw [← hji9]; unfold mx; (repeat' split) <;> omega)))
        (try (have hji9m : 0 ≤ ji9 := by omega))
        have hji9_ : (if 0 < a4 then a4 else 0) = ji9 := hji9
        by_cases c10 : a2 < (l1.length : Int)
        · rw [if_pos c10] at H
          have c10b0 : decide (a2 < (l1.length : Int)) = true := decide_eq_true c10
          clear c10
          obtain ⟨ji11, hji11⟩ : ∃ j_ : Int, (mx 0 (wrap64 (-a4))) = j_ := ⟨_, rfl⟩
          replace H : (if a3 > 0 then (if a2 < (l0_1.length : Int) then (some (wrap64 ((wrap64 ((wrap64 ((wrap64 ((rd l0_2 a2) * a3)) + (wrap64 ((rd l0_3 a2) * (ji9))))) + (wrap64 ((rd l1 a2) * (ji11))))) + (rd l0_1 a2)))) else (none)) else (some (wrap64 ((wrap64 ((wrap64 ((rd l0_2 a2) * a3)) + (wrap64 ((rd l0_3 a2) * (ji9))))) + (wrap64 ((rd l1 a2) * (ji11))))))) = some r := by first | (rw [hji11] at H; exact H) | (simp only [hji11] at H ⊢; exact H)
          (try (have hji11l : 0 ≤ ji11 := by (rw [← hji11]; unfold mx; (repeat' split) <;> omega)))
          (try (have hji11m : 0 ≤ ji11 := by omega))
          have hji11_ : (if 0 < (wrap64 (-a4)) then (wrap64 (-a4)) else 0) = ji11 := hji11
          by_cases c12 : a3 > 0
          · rw [if_pos c12] at H
            have c12b0 : decide (0 < a3) = true := decide_eq_true c12
            clear c12
            by_cases c13 : a2 < (l0_1.length : Int)
            · rw [if_pos c13] at H
              have c13b0 : decide (a2 < (l0_1.length : Int)) = true := decide_eq_true c13
              clear c13
              obtain rfl := Option.some.inj H
              go_enter Try.func74, Try.ntmps74
              go_wp2_with (first | ((with_reducible refine gate_dst (N := 5) rfl ?_); refine box_event ?hg (N := 5) ?hd (cs := #[.slice A0_0 l0_0.length c0_0, .slice A0_1 l0_1.length c0_1, .slice A0_2 l0_2.length c0_2, .slice A0_3 l0_3.length c0_3]) (t := 45) ?hr ?_; (case hd => rfl); (case hg => rfl); (case hr => first | (go_simp; done) | (go_simp; rfl)); intro gb199 hg w14 hbox hb; have n0_ := Aside0.mk (below_step (by repeat (first | (with_reducible first | exact HB.out | apply below_alloc | apply pw_below_drewN | apply below_drew1) | exact HB.out)) hb); have n1_ := Aside0.mk (hbox); have n2_ := Aside0.mk ((by rw [hg]; exact (below_size (by repeat (first | (with_reducible first | exact HB.out | apply below_alloc | apply pw_below_drewN | apply below_drew1) | exact HB.out))) : w.heap.size ≤ gb199)); have n3_ := Aside0.mk ((by rw [hg]; exact (below_size (by repeat (first | (with_reducible first | exact HB.out | apply below_alloc | apply pw_below_drewN | apply below_drew1) | exact HB.out))) : w.heap.size ≤ gb199)); clear HB; have HB := n0_; have BK199 := n1_; have GW199 := n2_; have GE199 := n3_; clear n0_ n1_ n2_ n3_; clear hb hbox hg; have hcz15_0 : w14.cell? ⟨gb199, 0, none⟩ = some (.slice A0_0 l0_0.length c0_0) := (blk_cell BK199.out 0).trans rfl; have hcz15_1 : w14.cell? ⟨gb199, 1, none⟩ = some (.slice A0_1 l0_1.length c0_1) := (blk_cell BK199.out 1).trans rfl; have hcz15_2 : w14.cell? ⟨gb199, 2, none⟩ = some (.slice A0_2 l0_2.length c0_2) := (blk_cell BK199.out 2).trans rfl; have hcz15_3 : w14.cell? ⟨gb199, 3, none⟩ = some (.slice A0_3 l0_3.length c0_3) := (blk_cell BK199.out 3).trans rfl; have hfz15_0 := blk_frozen BK199.out 0; have hfz15_1 := blk_frozen BK199.out 1; have hfz15_2 := blk_frozen BK199.out 2; have hfz15_3 := blk_frozen BK199.out 3; have p200 : 0 ≤ (a2 : Int) := of_decide_eq_true (by first | (with_reducible assumption) | assumption); have q200 : a2 < (l0_2.length : Int) := of_decide_eq_true (by first | (with_reducible assumption) | assumption); obtain ⟨ad200, e200, hx200_0⟩ := Kd.at_int HR0_2.out a2 p200 q200; cases e200; replace hx200_0 := (HB.out.cell (World.block_lt_of_cell? w _ hx200_0)).trans hx200_0; replace p200 := eq_true p200; replace q200 := eq_true q200; have p201 : 0 ≤ (a2 : Int) := of_decide_eq_true (by first | (with_reducible assumption) | assumption); have q201 : a2 < (l0_3.length : Int) := of_decide_eq_true (by first | (with_reducible assumption) | assumption); obtain ⟨ad201, e201, hx201_0⟩ := Kd.at_int HR0_3.out a2 p201 q201; cases e201; replace hx201_0 := (HB.out.cell (World.block_lt_of_cell? w _ hx201_0)).trans hx201_0; replace p201 := eq_true p201; replace q201 := eq_true q201; have p202 : 0 ≤ (a2 : Int) := of_decide_eq_true (by first | (with_reducible assumption) | assumption); have q202 : a2 < (l1.length : Int) := of_decide_eq_true (by first | (with_reducible assumption) | assumption); obtain ⟨ad202, e202, hx202_0⟩ := Kd.at_int HR1.out a2 p202 q202; cases e202; replace hx202_0 := (HB.out.cell (World.block_lt_of_cell? w _ hx202_0)).trans hx202_0; replace p202 := eq_true p202; replace q202 := eq_true q202; have p203 : 0 ≤ (a2 : Int) := of_decide_eq_true (by first | (with_reducible assumption) | assumption); have q203 : a2 < (l0_1.length : Int) := of_decide_eq_true (by first | (with_reducible assumption) | assumption); obtain ⟨ad203, e203, hx203_0⟩ := Kd.at_int HR0_1.out a2 p203 q203; cases e203; replace hx203_0 := (HB.out.cell (World.block_lt_of_cell? w _ hx203_0)).trans hx203_0; replace p203 := eq_true p203; replace q203 := eq_true q203))
              repeat (go_quiet (first | ((with_reducible refine gate_dst (N := 5) rfl ?_); refine box_event ?hg (N := 5) ?hd (cs := #[.slice A0_0 l0_0.length c0_0, .slice A0_1 l0_1.length c0_1, .slice A0_2 l0_2.length c0_2, .slice A0_3 l0_3.length c0_3]) (t := 45) ?hr ?_; (case hd => rfl); (case hg => rfl); (case hr => first | (go_simp; done) | (go_simp; rfl)); intro gb199 hg w14 hbox hb; have n0_ := Aside0.mk (below_step (by repeat (first | (with_reducible first | exact HB.out | apply below_alloc | apply pw_below_drewN | apply below_drew1) | exact HB.out)) hb); have n1_ := Aside0.mk (hbox); have n2_ := Aside0.mk ((by rw [hg]; exact (below_size (by repeat (first | (with_reducible first | exact HB.out | apply below_alloc | apply pw_below_drewN | apply below_drew1) | exact HB.out))) : w.heap.size ≤ gb199)); have n3_ := Aside0.mk ((by rw [hg]; exact (below_size (by repeat (first | (with_reducible first | exact HB.out | apply below_alloc | apply pw_below_drewN | apply below_drew1) | exact HB.out))) : w.heap.size ≤ gb199)); clear HB; have HB := n0_; have BK199 := n1_; have GW199 := n2_; have GE199 := n3_; clear n0_ n1_ n2_ n3_; clear hb hbox hg; have hcz15_0 : w14.cell? ⟨gb199, 0, none⟩ = some (.slice A0_0 l0_0.length c0_0) := (blk_cell BK199.out 0).trans rfl; have hcz15_1 : w14.cell? ⟨gb199, 1, none⟩ = some (.slice A0_1 l0_1.length c0_1) := (blk_cell BK199.out 1).trans rfl; have hcz15_2 : w14.cell? ⟨gb199, 2, none⟩ = some (.slice A0_2 l0_2.length c0_2) := (blk_cell BK199.out 2).trans rfl; have hcz15_3 : w14.cell? ⟨gb199, 3, none⟩ = some (.slice A0_3 l0_3.length c0_3) := (blk_cell BK199.out 3).trans rfl; have hfz15_0 := blk_frozen BK199.out 0; have hfz15_1 := blk_frozen BK199.out 1; have hfz15_2 := blk_frozen BK199.out 2; have hfz15_3 := blk_frozen BK199.out 3; have p200 : 0 ≤ (a2 : Int) := of_decide_eq_true (by first | (with_reducible assumption) | assumption); have q200 : a2 < (l0_2.length : Int) := of_decide_eq_true (by first | (with_reducible assumption) | assumption); obtain ⟨ad200, e200, hx200_0⟩ := Kd.at_int HR0_2.out a2 p200 q200; cases e200; replace hx200_0 := (HB.out.cell (World.block_lt_of_cell? w _ hx200_0)).trans hx200_0; replace p200 := eq_true p200; replace q200 := eq_true q200; have p201 : 0 ≤ (a2 : Int) := of_decide_eq_true (by first | (with_reducible assumption) | assumption); have q201 : a2 < (l0_3.length : Int) := of_decide_eq_true (by first | (with_reducible assumption) | assumption); obtain ⟨ad201, e201, hx201_0⟩ := Kd.at_int HR0_3.out a2 p201 q201; cases e201; replace hx201_0 := (HB.out.cell (World.block_lt_of_cell? w _ hx201_0)).trans hx201_0; replace p201 := eq_true p201; replace q201 := eq_true q201; have p202 : 0 ≤ (a2 : Int) := of_decide_eq_true (by first | (with_reducible assumption) | assumption); have q202 : a2 < (l1.length : Int) := of_decide_eq_true (by first | (with_reducible assumption) | assumption); obtain ⟨ad202, e202, hx202_0⟩ := Kd.at_int HR1.out a2 p202 q202; cases e202; replace hx202_0 := (HB.out.cell (World.block_lt_of_cell? w _ hx202_0)).trans hx202_0; replace p202 := eq_true p202; replace q202 := eq_true q202; have p203 : 0 ≤ (a2 : Int) := of_decide_eq_true (by first | (with_reducible assumption) | assumption); have q203 : a2 < (l0_1.length : Int) := of_decide_eq_true (by first | (with_reducible assumption) | assumption); obtain ⟨ad203, e203, hx203_0⟩ := Kd.at_int HR0_1.out a2 p203 q203; cases e203; replace hx203_0 := (HB.out.cell (World.block_lt_of_cell? w _ hx203_0)).trans hx203_0; replace p203 := eq_true p203; replace q203 := eq_true q203)); try go_wp2_with (first | ((with_reducible refine gate_dst (N := 5) rfl ?_); refine box_event ?hg (N := 5) ?hd (cs := #[.slice A0_0 l0_0.length c0_0, .slice A0_1 l0_1.length c0_1, .slice A0_2 l0_2.length c0_2, .slice A0_3 l0_3.length c0_3]) (t := 45) ?hr ?_; (case hd => rfl); (case hg => rfl); (case hr => first | (go_simp; done) | (go_simp; rfl)); intro gb199 hg w14 hbox hb; have n0_ := Aside0.mk (below_step (by repeat (first | (with_reducible first | exact HB.out | apply below_alloc | apply pw_below_drewN | apply below_drew1) | exact HB.out)) hb); have n1_ := Aside0.mk (hbox); have n2_ := Aside0.mk ((by rw [hg]; exact (below_size (by repeat (first | (with_reducible first | exact HB.out | apply below_alloc | apply pw_below_drewN | apply below_drew1) | exact HB.out))) : w.heap.size ≤ gb199)); have n3_ := Aside0.mk ((by rw [hg]; exact (below_size (by repeat (first | (with_reducible first | exact HB.out | apply below_alloc | apply pw_below_drewN | apply below_drew1) | exact HB.out))) : w.heap.size ≤ gb199)); clear HB; have HB := n0_; have BK199 := n1_; have GW199 := n2_; have GE199 := n3_; clear n0_ n1_ n2_ n3_; clear hb hbox hg; have hcz15_0 : w14.cell? ⟨gb199, 0, none⟩ = some (.slice A0_0 l0_0.length c0_0) := (blk_cell BK199.out 0).trans rfl; have hcz15_1 : w14.cell? ⟨gb199, 1, none⟩ = some (.slice A0_1 l0_1.length c0_1) := (blk_cell BK199.out 1).trans rfl; have hcz15_2 : w14.cell? ⟨gb199, 2, none⟩ = some (.slice A0_2 l0_2.length c0_2) := (blk_cell BK199.out 2).trans rfl; have hcz15_3 : w14.cell? ⟨gb199, 3, none⟩ = some (.slice A0_3 l0_3.length c0_3) := (blk_cell BK199.out 3).trans rfl; have hfz15_0 := blk_frozen BK199.out 0; have hfz15_1 := blk_frozen BK199.out 1; have hfz15_2 := blk_frozen BK199.out 2; have hfz15_3 := blk_frozen BK199.out 3; have p200 : 0 ≤ (a2 : Int) := of_decide_eq_true (by first | (with_reducible assumption) | assumption); have q200 : a2 < (l0_2.length : Int) := of_decide_eq_true (by first | (with_reducible assumption) | assumption); obtain ⟨ad200, e200, hx200_0⟩ := Kd.at_int HR0_2.out a2 p200 q200; cases e200; replace hx200_0 := (HB.out.cell (World.block_lt_of_cell? w _ hx200_0)).trans hx200_0; replace p200 := eq_true p200; replace q200 := eq_true q200; have p201 : 0 ≤ (a2 : Int) := of_decide_eq_true (by first | (with_reducible assumption) | assumption); have q201 : a2 < (l0_3.length : Int) := of_decide_eq_true (by first | (with_reducible assumption) | assumption); obtain ⟨ad201, e201, hx201_0⟩ := Kd.at_int HR0_3.out a2 p201 q201; cases e201; replace hx201_0 := (HB.out.cell (World.block_lt_of_cell? w _ hx201_0)).trans hx201_0; replace p201 := eq_true p201; replace q201 := eq_true q201; have p202 : 0 ≤ (a2 : Int) := of_decide_eq_true (by first | (with_reducible assumption) | assumption); have q202 : a2 < (l1.length : Int) := of_decide_eq_true (by first | (with_reducible assumption) | assumption); obtain ⟨ad202, e202, hx202_0⟩ := Kd.at_int HR1.out a2 p202 q202; cases e202; replace hx202_0 := (HB.out.cell (World.block_lt_of_cell? w _ hx202_0)).trans hx202_0; replace p202 := eq_true p202; replace q202 := eq_true q202; have p203 : 0 ≤ (a2 : Int) := of_decide_eq_true (by first | (with_reducible assumption) | assumption); have q203 : a2 < (l0_1.length : Int) := of_decide_eq_true (by first | (with_reducible assumption) | assumption); obtain ⟨ad203, e203, hx203_0⟩ := Kd.at_int HR0_1.out a2 p203 q203; cases e203; replace hx203_0 := (HB.out.cell (World.block_lt_of_cell? w _ hx203_0)).trans hx203_0; replace p203 := eq_true p203; replace q203 := eq_true q203)))
              go_ret
              exact ⟨by first | rfl | (simp [errW_none, errW_some] <;> rfl) | (simp only [← hji9, ← hji11]; first | rfl | (simp [errW_none, errW_some] <;> rfl)) | (simp [*, errW_none, errW_some] <;> rfl), by repeat (first | (with_reducible first | exact HB.out | apply below_alloc | apply pw_below_drewN | apply below_drew1 | refine below_set ?_ GE199.out) | exact HB.out)⟩
            · rw [if_neg c13] at H
              exact absurd H (by simp)
          · rw [if_neg c12] at H
            have c12b0 : decide (0 < a3) = false := decide_eq_false c12
            clear c12
            obtain rfl := Option.some.inj H
            go_enter Try.func74, Try.ntmps74
            go_wp2_with (first | ((with_reducible refine gate_dst (N := 5) rfl ?_); refine box_event ?hg (N := 5) ?hd (cs := #[.slice A0_0 l0_0.length c0_0, .slice A0_1 l0_1.length c0_1, .slice A0_2 l0_2.length c0_2, .slice A0_3 l0_3.length c0_3]) (t := 45) ?hr ?_; (case hd => rfl); (case hg => rfl); (case hr => first | (go_simp; done) | (go_simp; rfl)); intro gb199 hg w16 hbox hb; have n0_ := Aside0.mk (below_step (by repeat (first | (with_reducible first | exact HB.out | apply below_alloc | apply pw_below_drewN | apply below_drew1) | exact HB.out)) hb); have n1_ := Aside0.mk (hbox); have n2_ := Aside0.mk ((by rw [hg]; exact (below_size (by repeat (first | (with_reducible first | exact HB.out | apply below_alloc | apply pw_below_drewN | apply below_drew1) | exact HB.out))) : w.heap.size ≤ gb199)); have n3_ := Aside0.mk ((by rw [hg]; exact (below_size (by repeat (first | (with_reducible first | exact HB.out | apply below_alloc | apply pw_below_drewN | apply below_drew1) | exact HB.out))) : w.heap.size ≤ gb199)); clear HB; have HB := n0_; have BK199 := n1_; have GW199 := n2_; have GE199 := n3_; clear n0_ n1_ n2_ n3_; clear hb hbox hg; have hcz17_0 : w16.cell? ⟨gb199, 0, none⟩ = some (.slice A0_0 l0_0.length c0_0) := (blk_cell BK199.out 0).trans rfl; have hcz17_1 : w16.cell? ⟨gb199, 1, none⟩ = some (.slice A0_1 l0_1.length c0_1) := (blk_cell BK199.out 1).trans rfl; have hcz17_2 : w16.cell? ⟨gb199, 2, none⟩ = some (.slice A0_2 l0_2.length c0_2) := (blk_cell BK199.out 2).trans rfl; have hcz17_3 : w16.cell? ⟨gb199, 3, none⟩ = some (.slice A0_3 l0_3.length c0_3) := (blk_cell BK199.out 3).trans rfl; have hfz17_0 := blk_frozen BK199.out 0; have hfz17_1 := blk_frozen BK199.out 1; have hfz17_2 := blk_frozen BK199.out 2; have hfz17_3 := blk_frozen BK199.out 3; have p200 : 0 ≤ (a2 : Int) := of_decide_eq_true (by first | (with_reducible assumption) | assumption); have q200 : a2 < (l0_2.length : Int) := of_decide_eq_true (by first | (with_reducible assumption) | assumption); obtain ⟨ad200, e200, hx200_0⟩ := Kd.at_int HR0_2.out a2 p200 q200; cases e200; replace hx200_0 := (HB.out.cell (World.block_lt_of_cell? w _ hx200_0)).trans hx200_0; replace p200 := eq_true p200; replace q200 := eq_true q200; have p201 : 0 ≤ (a2 : Int) := of_decide_eq_true (by first | (with_reducible assumption) | assumption); have q201 : a2 < (l0_3.length : Int) := of_decide_eq_true (by first | (with_reducible assumption) | assumption); obtain ⟨ad201, e201, hx201_0⟩ := Kd.at_int HR0_3.out a2 p201 q201; cases e201; replace hx201_0 := (HB.out.cell (World.block_lt_of_cell? w _ hx201_0)).trans hx201_0; replace p201 := eq_true p201; replace q201 := eq_true q201; have p202 : 0 ≤ (a2 : Int) := of_decide_eq_true (by first | (with_reducible assumption) | assumption); have q202 : a2 < (l1.length : Int) := of_decide_eq_true (by first | (with_reducible assumption) | assumption); obtain ⟨ad202, e202, hx202_0⟩ := Kd.at_int HR1.out a2 p202 q202; cases e202; replace hx202_0 := (HB.out.cell (World.block_lt_of_cell? w _ hx202_0)).trans hx202_0; replace p202 := eq_true p202; replace q202 := eq_true q202))
            repeat (go_quiet (first | ((with_reducible refine gate_dst (N := 5) rfl ?_); refine box_event ?hg (N := 5) ?hd (cs := #[.slice A0_0 l0_0.length c0_0, .slice A0_1 l0_1.length c0_1, .slice A0_2 l0_2.length c0_2, .slice A0_3 l0_3.length c0_3]) (t := 45) ?hr ?_; (case hd => rfl); (case hg => rfl); (case hr => first | (go_simp; done) | (go_simp; rfl)); intro gb199 hg w16 hbox hb; have n0_ := Aside0.mk (below_step (by repeat (first | (with_reducible first | exact HB.out | apply below_alloc | apply pw_below_drewN | apply below_drew1) | exact HB.out)) hb); have n1_ := Aside0.mk (hbox); have n2_ := Aside0.mk ((by rw [hg]; exact (below_size (by repeat (first | (with_reducible first | exact HB.out | apply below_alloc | apply pw_below_drewN | apply below_drew1) | exact HB.out))) : w.heap.size ≤ gb199)); have n3_ := Aside0.mk ((by rw [hg]; exact (below_size (by repeat (first | (with_reducible first | exact HB.out | apply below_alloc | apply pw_below_drewN | apply below_drew1) | exact HB.out))) : w.heap.size ≤ gb199)); clear HB; have HB := n0_; have BK199 := n1_; have GW199 := n2_; have GE199 := n3_; clear n0_ n1_ n2_ n3_; clear hb hbox hg; have hcz17_0 : w16.cell? ⟨gb199, 0, none⟩ = some (.slice A0_0 l0_0.length c0_0) := (blk_cell BK199.out 0).trans rfl; have hcz17_1 : w16.cell? ⟨gb199, 1, none⟩ = some (.slice A0_1 l0_1.length c0_1) := (blk_cell BK199.out 1).trans rfl; have hcz17_2 : w16.cell? ⟨gb199, 2, none⟩ = some (.slice A0_2 l0_2.length c0_2) := (blk_cell BK199.out 2).trans rfl; have hcz17_3 : w16.cell? ⟨gb199, 3, none⟩ = some (.slice A0_3 l0_3.length c0_3) := (blk_cell BK199.out 3).trans rfl; have hfz17_0 := blk_frozen BK199.out 0; have hfz17_1 := blk_frozen BK199.out 1; have hfz17_2 := blk_frozen BK199.out 2; have hfz17_3 := blk_frozen BK199.out 3; have p200 : 0 ≤ (a2 : Int) := of_decide_eq_true (by first | (with_reducible assumption) | assumption); have q200 : a2 < (l0_2.length : Int) := of_decide_eq_true (by first | (with_reducible assumption) | assumption); obtain ⟨ad200, e200, hx200_0⟩ := Kd.at_int HR0_2.out a2 p200 q200; cases e200; replace hx200_0 := (HB.out.cell (World.block_lt_of_cell? w _ hx200_0)).trans hx200_0; replace p200 := eq_true p200; replace q200 := eq_true q200; have p201 : 0 ≤ (a2 : Int) := of_decide_eq_true (by first | (with_reducible assumption) | assumption); have q201 : a2 < (l0_3.length : Int) := of_decide_eq_true (by first | (with_reducible assumption) | assumption); obtain ⟨ad201, e201, hx201_0⟩ := Kd.at_int HR0_3.out a2 p201 q201; cases e201; replace hx201_0 := (HB.out.cell (World.block_lt_of_cell? w _ hx201_0)).trans hx201_0; replace p201 := eq_true p201; replace q201 := eq_true q201; have p202 : 0 ≤ (a2 : Int) := of_decide_eq_true (by first | (with_reducible assumption) | assumption); have q202 : a2 < (l1.length : Int) := of_decide_eq_true (by first | (with_reducible assumption) | assumption); obtain ⟨ad202, e202, hx202_0⟩ := Kd.at_int HR1.out a2 p202 q202; cases e202; replace hx202_0 := (HB.out.cell (World.block_lt_of_cell? w _ hx202_0)).trans hx202_0; replace p202 := eq_true p202; replace q202 := eq_true q202)); try go_wp2_with (first | ((with_reducible refine gate_dst (N := 5) rfl ?_); refine box_event ?hg (N := 5) ?hd (cs := #[.slice A0_0 l0_0.length c0_0, .slice A0_1 l0_1.length c0_1, .slice A0_2 l0_2.length c0_2, .slice A0_3 l0_3.length c0_3]) (t := 45) ?hr ?_; (case hd => rfl); (case hg => rfl); (case hr => first | (go_simp; done) | (go_simp; rfl)); intro gb199 hg w16 hbox hb; have n0_ := Aside0.mk (below_step (by repeat (first | (with_reducible first | exact HB.out | apply below_alloc | apply pw_below_drewN | apply below_drew1) | exact HB.out)) hb); have n1_ := Aside0.mk (hbox); have n2_ := Aside0.mk ((by rw [hg]; exact (below_size (by repeat (first | (with_reducible first | exact HB.out | apply below_alloc | apply pw_below_drewN | apply below_drew1) | exact HB.out))) : w.heap.size ≤ gb199)); have n3_ := Aside0.mk ((by rw [hg]; exact (below_size (by repeat (first | (with_reducible first | exact HB.out | apply below_alloc | apply pw_below_drewN | apply below_drew1) | exact HB.out))) : w.heap.size ≤ gb199)); clear HB; have HB := n0_; have BK199 := n1_; have GW199 := n2_; have GE199 := n3_; clear n0_ n1_ n2_ n3_; clear hb hbox hg; have hcz17_0 : w16.cell? ⟨gb199, 0, none⟩ = some (.slice A0_0 l0_0.length c0_0) := (blk_cell BK199.out 0).trans rfl; have hcz17_1 : w16.cell? ⟨gb199, 1, none⟩ = some (.slice A0_1 l0_1.length c0_1) := (blk_cell BK199.out 1).trans rfl; have hcz17_2 : w16.cell? ⟨gb199, 2, none⟩ = some (.slice A0_2 l0_2.length c0_2) := (blk_cell BK199.out 2).trans rfl; have hcz17_3 : w16.cell? ⟨gb199, 3, none⟩ = some (.slice A0_3 l0_3.length c0_3) := (blk_cell BK199.out 3).trans rfl; have hfz17_0 := blk_frozen BK199.out 0; have hfz17_1 := blk_frozen BK199.out 1; have hfz17_2 := blk_frozen BK199.out 2; have hfz17_3 := blk_frozen BK199.out 3; have p200 : 0 ≤ (a2 : Int) := of_decide_eq_true (by first | (with_reducible assumption) | assumption); have q200 : a2 < (l0_2.length : Int) := of_decide_eq_true (by first | (with_reducible assumption) | assumption); obtain ⟨ad200, e200, hx200_0⟩ := Kd.at_int HR0_2.out a2 p200 q200; cases e200; replace hx200_0 := (HB.out.cell (World.block_lt_of_cell? w _ hx200_0)).trans hx200_0; replace p200 := eq_true p200; replace q200 := eq_true q200; have p201 : 0 ≤ (a2 : Int) := of_decide_eq_true (by first | (with_reducible assumption) | assumption); have q201 : a2 < (l0_3.length : Int) := of_decide_eq_true (by first | (with_reducible assumption) | assumption); obtain ⟨ad201, e201, hx201_0⟩ := Kd.at_int HR0_3.out a2 p201 q201; cases e201; replace hx201_0 := (HB.out.cell (World.block_lt_of_cell? w _ hx201_0)).trans hx201_0; replace p201 := eq_true p201; replace q201 := eq_true q201; have p202 : 0 ≤ (a2 : Int) := of_decide_eq_true (by first | (with_reducible assumption) | assumption); have q202 : a2 < (l1.length : Int) := of_decide_eq_true (by first | (with_reducible assumption) | assumption); obtain ⟨ad202, e202, hx202_0⟩ := Kd.at_int HR1.out a2 p202 q202; cases e202; replace hx202_0 := (HB.out.cell (World.block_lt_of_cell? w _ hx202_0)).trans hx202_0; replace p202 := eq_true p202; replace q202 := eq_true q202)))
            go_ret
            exact ⟨by first | rfl | (simp [errW_none, errW_some] <;> rfl) | (simp only [← hji9, ← hji11]; first | rfl | (simp [errW_none, errW_some] <;> rfl)) | (simp [*, errW_none, errW_some] <;> rfl), by repeat (first | (with_reducible first | exact HB.out | apply below_alloc | apply pw_below_drewN | apply below_drew1 | refine below_set ?_ GE199.out) | exact HB.out)⟩
        · rw [if_neg c10] at H
          exact absurd H (by simp)
      · rw [if_neg c8] at H
        exact absurd H (by simp)
    · rw [if_neg c7] at H
      exact absurd H (by simp)
  · rw [if_neg c6] at H
    exact absurd H (by simp)

-- NOT PRINTED: function 73 (impl_Case_bestLate_1)

/-! ### impl_Case_bestLate: function 58 -/
/-- A valid case with rates. -/
def impl_Case_bestLate.Ok (n s u h r : List Int) : Prop := (n.length ≤ 8 ∧ s.length = n.length ∧ u.length = n.length ∧ h.length = n.length ∧ r.length = n.length) ∧ (∀ x ∈ n, 0 ≤ x ∧ x ≤ 20) ∧ (∀ x ∈ s, 0 ≤ x ∧ x ≤ 99) ∧ (∀ x ∈ u, 0 ≤ x ∧ x ≤ 9) ∧ (∀ x ∈ h, 0 ≤ x ∧ x ≤ 9) ∧ (∀ x ∈ r, 0 ≤ x ∧ x ≤ 9)
instance (n s u h r : List Int) : Decidable (impl_Case_bestLate.Ok n s u h r) := by unfold impl_Case_bestLate.Ok; infer_instance
/-- What an amount x in period t costs that leaves the balance b. -/
def impl_Case_bestLate.rt (s u h r : List Int) (t : Nat) (x b : Int) : Int := rd u (t : Int) * x + rd h (t : Int) * mx 0 b + rd r (t : Int) * mx 0 (-b) + if x > 0 then rd s (t : Int) else 0
def impl_Case_bestLate.least (f : Nat → Int) : Nat → Int
  | 0 => 1099511627776
  | k + 1 => mn (impl_Case_bestLate.least f k) (f k)
def impl_Case_bestLate.pre (n : List Int) (t : Nat) : Int := (n.take t).sum
/-- The least cost of the last d periods, o having been ordered before. -/
def impl_Case_bestLate.V (n s u h r : List Int) : Nat → Nat → Int
  | 0, o => if (o : Int) = n.sum then 0 else 1099511627776
  | d + 1, o => impl_Case_bestLate.least (fun a => impl_Case_bestLate.rt s u h r (n.length - (d + 1)) (a : Int) ((o : Int) + a - impl_Case_bestLate.pre n (n.length - d)) + impl_Case_bestLate.V n s u h r d (o + a)) (n.sum.toNat - o + 1)
def impl_Case_bestLate.wth (n s u h r : List Int) (d o a : Nat) : Int := impl_Case_bestLate.rt s u h r (n.length - (d + 1)) (a : Int) ((o : Int) + a - impl_Case_bestLate.pre n (n.length - d)) + impl_Case_bestLate.V n s u h r d (o + a)
def impl_Case_bestLate.row (n s u h r : List Int) (d : Nat) : List Int := (List.range (n.sum.toNat + 1)).map (impl_Case_bestLate.V n s u h r d)
def impl_Case_bestLate.find (p : Nat → Bool) : Nat → Nat → Nat
  | 0, a => a
  | k + 1, a => if p a then a else impl_Case_bestLate.find p k (a + 1)
def impl_Case_bestLate.amt (n s u h r : List Int) (d o : Nat) : Nat := impl_Case_bestLate.find (fun a => decide (impl_Case_bestLate.wth n s u h r d o a = impl_Case_bestLate.V n s u h r (d + 1) o)) n.sum.toNat 0
def impl_Case_bestLate.plan (n s u h r : List Int) : Nat → Nat → List Int
  | 0, _ => []
  | d + 1, o => (impl_Case_bestLate.amt n s u h r d o : Int) :: impl_Case_bestLate.plan n s u h r d (o + impl_Case_bestLate.amt n s u h r d o)
def impl_Case_bestLate.f (n s u h r : List Int) : Option (List Int × Int) := if impl_Case_bestLate.Ok n s u h r then some (impl_Case_bestLate.plan n s u h r n.length 0, impl_Case_bestLate.V n s u h r n.length 0) else none
theorem impl_Case_bestLate.w64 {x : Int} (h1 : -9223372036854775808 ≤ x) (h2 : x ≤ 9223372036854775807) : wrap64 x = x := by
  unfold wrap64
  omega
theorem impl_Case_bestLate.rd_mem (l : List Int) (i : Nat) (h : i < l.length) : rd l (i : Int) ∈ l := by
  have : rd l (i : Int) = l[i] := by simp [rd, List.getD_eq_getElem?_getD, h]
  rw [this]; exact List.getElem_mem h
theorem impl_Case_bestLate.mx0 (x A : Int) (h : x ≤ A) (hA : 0 ≤ A) : 0 ≤ mx 0 x ∧ mx 0 x ≤ A := by
  unfold mx; split <;> omega
theorem impl_Case_bestLate.parts {n s u h r : List Int} (c : impl_Case_bestLate.Ok n s u h r) (t : Nat) (ht : t < n.length) (x b : Int) (hx : 0 ≤ x ∧ x ≤ 160) (hb : -160 ≤ b ∧ b ≤ 160) :
    (0 ≤ rd u (t : Int) * x ∧ rd u (t : Int) * x ≤ 9 * 160) ∧ (0 ≤ rd h (t : Int) * mx 0 b ∧ rd h (t : Int) * mx 0 b ≤ 9 * 160) ∧ (0 ≤ rd r (t : Int) * mx 0 (-b) ∧ rd r (t : Int) * mx 0 (-b) ≤ 9 * 160) ∧ 0 ≤ rd s (t : Int) ∧ rd s (t : Int) ≤ 99 := by
  obtain ⟨⟨l0, l1, l2, l3, l4⟩, _, hs, hu, hh, hr⟩ := c
  have bd : ∀ {x y A B : Int}, (0 ≤ x ∧ x ≤ A) → (0 ≤ y ∧ y ≤ B) → 0 ≤ x * y ∧ x * y ≤ A * B := fun hx hy => ⟨Int.mul_nonneg hx.1 hy.1, Int.mul_le_mul hx.2 hy.2 hy.1 (by omega)⟩
  have es := hs _ (impl_Case_bestLate.rd_mem s t (by omega))
  exact ⟨bd (hu _ (impl_Case_bestLate.rd_mem u t (by omega))) hx, bd (hh _ (impl_Case_bestLate.rd_mem h t (by omega))) (impl_Case_bestLate.mx0 b 160 (by omega) (by omega)), bd (hr _ (impl_Case_bestLate.rd_mem r t (by omega))) (impl_Case_bestLate.mx0 (-b) 160 (by omega) (by omega)), es.1, es.2⟩
theorem impl_Case_bestLate.rt_bd {n s u h r : List Int} (c : impl_Case_bestLate.Ok n s u h r) (t : Nat) (ht : t < n.length) (x b : Int) (hx : 0 ≤ x ∧ x ≤ 160) (hb : -160 ≤ b ∧ b ≤ 160) : 0 ≤ impl_Case_bestLate.rt s u h r t x b ∧ impl_Case_bestLate.rt s u h r t x b ≤ 4419 := by
  obtain ⟨p1, p2, p3, p4⟩ := impl_Case_bestLate.parts c t ht x b hx hb
  unfold impl_Case_bestLate.rt; split <;> omega
theorem impl_Case_bestLate.late_eq {n s u h r : List Int} (c : impl_Case_bestLate.Ok n s u h r) (t : Nat) (ht : t < n.length) (x b : Int) (hx : 0 ≤ x ∧ x ≤ 160) (hb : -160 ≤ b ∧ b ≤ 160) : impl_Case_late.f n s u h r (t : Int) x b = some (impl_Case_bestLate.rt s u h r t x b) := by
  obtain ⟨p1, p2, p3, p4⟩ := impl_Case_bestLate.parts c t ht x b hx hb
  obtain ⟨⟨l0, l1, l2, l3, l4⟩, _⟩ := c
  unfold impl_Case_late.f impl_Case_bestLate.rt
  rw [if_pos (by omega), if_pos (by omega), if_pos (by omega), if_pos (by omega), impl_Case_bestLate.w64 (x := -b) (by omega) (by omega), impl_Case_bestLate.w64 (x := rd u (t : Int) * x) (by omega) (by omega), impl_Case_bestLate.w64 (x := rd h (t : Int) * mx 0 b) (by omega) (by omega), impl_Case_bestLate.w64 (x := rd r (t : Int) * mx 0 (-b)) (by omega) (by omega)]
  by_cases z : x > 0
  · rw [if_pos z, if_pos (by omega), if_pos z, impl_Case_bestLate.w64 (x := rd u (t : Int) * x + rd h (t : Int) * mx 0 b) (by omega) (by omega), impl_Case_bestLate.w64 (x := rd u (t : Int) * x + rd h (t : Int) * mx 0 b + rd r (t : Int) * mx 0 (-b)) (by omega) (by omega), impl_Case_bestLate.w64 (by omega) (by omega)]
  · rw [if_neg z, if_neg z, impl_Case_bestLate.w64 (x := rd u (t : Int) * x + rd h (t : Int) * mx 0 b) (by omega) (by omega), impl_Case_bestLate.w64 (by omega) (by omega)]; congr 1; omega
theorem impl_Case_bestLate.sum_bd (l : List Int) (hl : ∀ x ∈ l, 0 ≤ x ∧ x ≤ 20) : 0 ≤ l.sum ∧ l.sum ≤ 20 * l.length := by
  induction l with
  | nil => simp
  | cons a t ih =>
    have ha := hl a (by simp)
    have ht := ih (fun x hx => hl x (by simp [hx]))
    simp only [List.sum_cons, List.length_cons, Int.natCast_add, Int.natCast_one, Int.mul_add, Int.mul_one]
    omega
theorem impl_Case_bestLate.pre_bd {n s u h r : List Int} (c : impl_Case_bestLate.Ok n s u h r) (t : Nat) : 0 ≤ impl_Case_bestLate.pre n t ∧ impl_Case_bestLate.pre n t ≤ n.sum ∧ n.sum ≤ 160 := by
  obtain ⟨⟨l0, _⟩, hn, _⟩ := c
  have a := impl_Case_bestLate.sum_bd (n.take t) (fun x hx => hn x (List.mem_of_mem_take hx))
  have b := impl_Case_bestLate.sum_bd (n.drop t) (fun x hx => hn x (List.mem_of_mem_drop hx))
  have e : n.sum = (n.take t).sum + (n.drop t).sum := by rw [← List.sum_append, List.take_append_drop]
  have d := impl_Case_bestLate.sum_bd n hn
  unfold impl_Case_bestLate.pre
  omega
theorem impl_Case_bestLate.least_le (f : Nat → Int) (k : Nat) : impl_Case_bestLate.least f k ≤ 1099511627776 := by
  induction k with
  | zero => exact Int.le_refl _
  | succ k ih => simp only [impl_Case_bestLate.least]; unfold mn; split <;> omega
theorem impl_Case_bestLate.least_at (f : Nat → Int) (k a : Nat) (h : a < k) : impl_Case_bestLate.least f k ≤ f a := by
  induction k with
  | zero => omega
  | succ k ih =>
    simp only [impl_Case_bestLate.least]; unfold mn
    by_cases e : a = k
    · subst e; split <;> omega
    · have := ih (by omega); split <;> omega
theorem impl_Case_bestLate.least_nn (f : Nat → Int) (k : Nat) (h : ∀ a, a < k → 0 ≤ f a) : 0 ≤ impl_Case_bestLate.least f k := by
  induction k with
  | zero => simp [impl_Case_bestLate.least]
  | succ k ih =>
    have a := ih (fun a ha => h a (by omega))
    have b := h k (by omega)
    simp only [impl_Case_bestLate.least]; unfold mn; split <;> omega
theorem impl_Case_bestLate.least_is (f : Nat → Int) (k : Nat) (h : impl_Case_bestLate.least f k < 1099511627776) : ∃ a, a < k ∧ f a = impl_Case_bestLate.least f k := by
  induction k with
  | zero => simp [impl_Case_bestLate.least] at h
  | succ k ih =>
    simp only [impl_Case_bestLate.least] at h ⊢
    unfold mn at h ⊢
    by_cases c : f k < impl_Case_bestLate.least f k
    · rw [if_pos c]; exact ⟨k, by omega, rfl⟩
    · rw [if_neg c] at h ⊢
      obtain ⟨a, ha, e⟩ := ih h
      exact ⟨a, by omega, e⟩
/-- What an amount comes to, within what is still to be ordered. -/
theorem impl_Case_bestLate.step_bd {n s u h r : List Int} (c : impl_Case_bestLate.Ok n s u h r) (d o a : Nat) (hd : d < n.length) (ho : ((o + a : Nat) : Int) ≤ n.sum) : 0 ≤ impl_Case_bestLate.rt s u h r (n.length - (d + 1)) (a : Int) ((o : Int) + a - impl_Case_bestLate.pre n (n.length - d)) ∧ impl_Case_bestLate.rt s u h r (n.length - (d + 1)) (a : Int) ((o : Int) + a - impl_Case_bestLate.pre n (n.length - d)) ≤ 4419 := by
  have p := impl_Case_bestLate.pre_bd c (n.length - d)
  exact impl_Case_bestLate.rt_bd c _ (by omega) _ _ (by omega) (by omega)
theorem impl_Case_bestLate.V_bd {n s u h r : List Int} (c : impl_Case_bestLate.Ok n s u h r) : ∀ (d o : Nat), d ≤ n.length → (o : Int) ≤ n.sum → 0 ≤ impl_Case_bestLate.V n s u h r d o ∧ impl_Case_bestLate.V n s u h r d o ≤ 1099511627776 := by
  intro d
  induction d with
  | zero => intro o _ _; simp only [impl_Case_bestLate.V]; split <;> omega
  | succ d ih =>
    intro o hd ho
    refine ⟨impl_Case_bestLate.least_nn _ _ (fun a ha => ?_), impl_Case_bestLate.least_le _ _⟩
    have b := impl_Case_bestLate.step_bd c d o a (by omega) (by omega)
    have v := ih (o + a) (by omega) (by omega)
    omega
theorem impl_Case_bestLate.V_all {n s u h r : List Int} (c : impl_Case_bestLate.Ok n s u h r) : ∀ d : Nat, d ≤ n.length → impl_Case_bestLate.V n s u h r d n.sum.toNat ≤ 4419 * d := by
  intro d
  have p := impl_Case_bestLate.pre_bd c 0
  induction d with
  | zero => intro _; simp only [impl_Case_bestLate.V]; rw [if_pos (by omega)]; omega
  | succ d ih =>
    intro hd
    have b := impl_Case_bestLate.step_bd c d n.sum.toNat 0 (by omega) (by omega)
    have v := ih (by omega)
    have l := impl_Case_bestLate.least_at (fun a => impl_Case_bestLate.rt s u h r (n.length - (d + 1)) (a : Int) ((n.sum.toNat : Int) + a - impl_Case_bestLate.pre n (n.length - d)) + impl_Case_bestLate.V n s u h r d (n.sum.toNat + a)) (n.sum.toNat - n.sum.toNat + 1) 0 (by omega)
    simp only [impl_Case_bestLate.V]
    simp only [Nat.add_zero] at l b
    omega
theorem impl_Case_bestLate.V_lt {n s u h r : List Int} (c : impl_Case_bestLate.Ok n s u h r) (d o : Nat) (hd : d < n.length) (ho : (o : Int) ≤ n.sum) : impl_Case_bestLate.V n s u h r (d + 1) o < 1099511627776 := by
  have b := impl_Case_bestLate.step_bd c d o (n.sum.toNat - o) hd (by omega)
  have v := impl_Case_bestLate.V_all c d (by omega)
  have l := impl_Case_bestLate.least_at (fun a => impl_Case_bestLate.rt s u h r (n.length - (d + 1)) (a : Int) ((o : Int) + a - impl_Case_bestLate.pre n (n.length - d)) + impl_Case_bestLate.V n s u h r d (o + a)) (n.sum.toNat - o + 1) (n.sum.toNat - o) (by omega)
  simp only [impl_Case_bestLate.V]
  simp only [show o + (n.sum.toNat - o) = n.sum.toNat by omega] at l
  have := c.1.1
  omega
theorem impl_Case_bestLate.find_is (p : Nat → Bool) : ∀ (k a : Nat), (∃ b, a ≤ b ∧ b ≤ a + k ∧ p b = true) → p (impl_Case_bestLate.find p k a) = true ∧ a ≤ impl_Case_bestLate.find p k a ∧ impl_Case_bestLate.find p k a ≤ a + k ∧ ∀ b, a ≤ b → b < impl_Case_bestLate.find p k a → p b = false := by
  intro k
  induction k with
  | zero =>
    rintro a ⟨b, h1, h2, h3⟩
    obtain rfl : b = a := by omega
    exact ⟨h3, Nat.le_refl _, Nat.le_refl _, fun b h1 h2 => by simp only [impl_Case_bestLate.find] at h2; omega⟩
  | succ k ih =>
    rintro a ⟨b, h1, h2, h3⟩
    simp only [impl_Case_bestLate.find]
    by_cases e : p a = true
    · rw [if_pos e]; exact ⟨e, Nat.le_refl _, by omega, fun b h1 h2 => by omega⟩
    · rw [if_neg e]
      have hb : a ≠ b := fun z => e (z ▸ h3)
      obtain ⟨q1, q2, q3, q4⟩ := ih (a + 1) ⟨b, by omega, by omega, h3⟩
      refine ⟨q1, by omega, by omega, fun b' h1 h2 => ?_⟩
      by_cases z : b' = a
      · rw [z]; exact Bool.eq_false_iff.mpr e
      · exact q4 b' (by omega) h2
theorem impl_Case_bestLate.amt_is {n s u h r : List Int} (c : impl_Case_bestLate.Ok n s u h r) (d o : Nat) (hd : d < n.length) (ho : (o : Int) ≤ n.sum) : impl_Case_bestLate.wth n s u h r d o (impl_Case_bestLate.amt n s u h r d o) = impl_Case_bestLate.V n s u h r (d + 1) o ∧ ((o + impl_Case_bestLate.amt n s u h r d o : Nat) : Int) ≤ n.sum ∧ ∀ b, b < impl_Case_bestLate.amt n s u h r d o → impl_Case_bestLate.wth n s u h r d o b ≠ impl_Case_bestLate.V n s u h r (d + 1) o := by
  obtain ⟨a, ha, e⟩ := impl_Case_bestLate.least_is _ _ (show impl_Case_bestLate.least _ _ < _ from impl_Case_bestLate.V_lt c d o hd ho)
  obtain ⟨q1, _, q3, q4⟩ := impl_Case_bestLate.find_is (fun a => decide (impl_Case_bestLate.wth n s u h r d o a = impl_Case_bestLate.V n s u h r (d + 1) o)) n.sum.toNat 0 ⟨a, Nat.zero_le _, by omega, by rw [decide_eq_true_iff]; exact e⟩
  have q5 : impl_Case_bestLate.amt n s u h r d o ≤ a := by
    rcases Nat.lt_or_ge a (impl_Case_bestLate.amt n s u h r d o) with z | z
    · have := q4 a (Nat.zero_le _) z
      rw [decide_eq_false_iff_not] at this
      exact absurd e this
    · exact z
  refine ⟨of_decide_eq_true q1, by omega, fun b hb => ?_⟩
  exact of_decide_eq_false (q4 b (Nat.zero_le _) hb)
theorem impl_Case_bestLate.rd_take (l : List Int) (i : Nat) (h : i < l.length) : (l.take (i + 1)).sum = (l.take i).sum + rd l (i : Int) := by
  have e : rd l (i : Int) = l[i] := by simp [rd, List.getD_eq_getElem?_getD, h]
  rw [List.take_succ_eq_append_getElem h, List.sum_append, e]; simp
theorem impl_Case_bestLate.total_l0 (l : List Int) (hb : ∀ x ∈ l, 0 ≤ x ∧ x ≤ 20) (hl : l.length ≤ 8) : ∀ (d i : Nat), i + d = l.length → impl_total.l0 (d + 1) (l.take i).sum l (l.length : Int) (i : Int) = some l.sum := by
  intro d
  induction d with
  | zero =>
    intro i hi
    simp only [impl_total.l0]
    rw [if_neg (by omega), List.take_of_length_le (by omega)]
  | succ d ih =>
    intro i hi
    have a := impl_Case_bestLate.sum_bd (l.take (i + 1)) (fun x hx => hb x (List.mem_of_mem_take hx))
    have b := impl_Case_bestLate.rd_take l i (by omega)
    have e := ih (i + 1) (by omega)
    rw [impl_total.l0]
    rw [if_pos (by omega), if_pos (by omega), if_pos (by omega), ← b, impl_Case_bestLate.w64 (by omega) (by rw [List.length_take] at a; omega), impl_Case_bestLate.w64 (by omega) (by omega)]
    exact e
theorem impl_Case_bestLate.total_eq (l : List Int) (hb : ∀ x ∈ l, 0 ≤ x ∧ x ≤ 20) (hl : l.length ≤ 8) : impl_total.f (l.length + 1) l = some l.sum := impl_Case_bestLate.total_l0 l hb hl l.length 0 (by omega)
theorem impl_Case_bestLate.row_len (n s u h r : List Int) (d : Nat) : (impl_Case_bestLate.row n s u h r d).length = n.sum.toNat + 1 := by simp [impl_Case_bestLate.row]
theorem impl_Case_bestLate.row_at (n s u h r : List Int) (d o : Nat) (ho : o ≤ n.sum.toNat) : rd (impl_Case_bestLate.row n s u h r d) (o : Int) = impl_Case_bestLate.V n s u h r d o := by
  have h1 : o < n.sum.toNat + 1 := by omega
  simp [rd, impl_Case_bestLate.row, List.getD_eq_getElem?_getD, List.getElem?_map, List.getElem?_range h1]
set_option maxHeartbeats 4000000 in
set_option maxRecDepth 100000 in
theorem impl_Case_bestLate.with_raw (n s u h r : List Int) (An As Au Ah Ar : Option Addr) (cn cs cu ch cr bc br bt gt N : Nat) (i o a : Nat) (Ax : Option Addr) (cx m : Nat) (row : List Int) (sm v : Int) (w : World)
    (hi : i < n.length) (hN : i + 1 < N) (hoa : o + a < row.length) (hr8 : row.length ≤ 200) (hn8 : n.length ≤ 8) (hm : m = row.length)
    (hrn : (Kd.int .i64).C w An n.length n) (hcn : n.length ≤ cn) (hrs : (Kd.int .i64).C w As s.length s) (hcs : s.length ≤ cs) (hru : (Kd.int .i64).C w Au u.length u) (hcu : u.length ≤ cu) (hrh : (Kd.int .i64).C w Ah h.length h) (hch : h.length ≤ ch) (hrr : (Kd.int .i64).C w Ar r.length r) (hcr : r.length ≤ cr)
    (hbc : w.heap[bc]? = some (.cells #[.slice An n.length cn, .slice As s.length cs, .slice Au u.length cu, .slice Ah h.length ch] 45 (0, 0)))
    (hbr : w.heap[br]? = some (.cells #[.slice Ar r.length cr] 23 (0, 0)))
    (hbt : w.heap[bt]? = some (.cells #[.slice (some ⟨gt, 0, none⟩) N N] 33 (0, 0)))
    (hcell : w.cell? ⟨gt, i + 1, none⟩ = some (.slice Ax m cx)) (hrow : (Kd.int .i64).C w Ax row.length row)
    (hs0 : 0 ≤ sm ∧ sm ≤ 200) (hv0 : 0 ≤ v ∧ v ≤ 5000) (hx0 : 0 ≤ rd row ((o : Int) + (a : Int)) ∧ rd row ((o : Int) + (a : Int)) ≤ 1099511627776)
    (hsum : impl_total.f (i + 2) (n.take (i + 1)) = some sm) (hlate : impl_Case_late.f n s u h r (i : Int) (a : Int) ((o : Int) + a - sm) = some v) :
    Calls Try.prog 73 #[.int .i64 (i : Int), .int .i64 (o : Int), .int .i64 (a : Int), .pointer (some ⟨bc, 0, none⟩), .pointer (some ⟨br, 0, none⟩), .pointer (some ⟨bt, 0, none⟩)] w fun e w' => e = .returned (.int .i64 (v + rd row ((o : Int) + (a : Int)))) ∧ Below w.heap.size w w' := by
  subst hm
  obtain ⟨s0, s1⟩ := hs0
  obtain ⟨v0, v1⟩ := hv0
  obtain ⟨ad, rfl, hnum⟩ := Kd.at_int hrow ((o : Int) + (a : Int)) (by omega) (by omega)
  have k0 : w.cell? ⟨bc, 0, none⟩ = some (.slice An n.length cn) := (blk_cell hbc 0).trans rfl
  have k1 : w.cell? ⟨bc, 1, none⟩ = some (.slice As s.length cs) := (blk_cell hbc 1).trans rfl
  have k2 : w.cell? ⟨bc, 2, none⟩ = some (.slice Au u.length cu) := (blk_cell hbc 2).trans rfl
  have k3 : w.cell? ⟨bc, 3, none⟩ = some (.slice Ah h.length ch) := (blk_cell hbc 3).trans rfl
  have k4 : w.cell? ⟨br, 0, none⟩ = some (.slice Ar r.length cr) := (blk_cell hbr 0).trans rfl
  have k5 : w.cell? ⟨bt, 0, none⟩ = some (.slice (some ⟨gt, 0, none⟩) N N) := (blk_cell hbt 0).trans rfl
  have hnum' : w.cell? (ad.add ((o : Int) + (a : Int)).toNat) = some (.int .i64 (rd row ((o : Int) + (a : Int)))) := hnum
  obtain ⟨x, hx⟩ : ∃ x : Int, x = rd row ((o : Int) + (a : Int)) := ⟨_, rfl⟩
  rw [← hx] at hnum' hx0 ⊢
  obtain ⟨x0, x1⟩ := hx0
  obtain ⟨i07, hi07, _, hsz7, _⟩ := info_parts info3
  obtain ⟨hcut7, hA7, hC7⟩ := print_take_of (P := Try.prog) (Value.int .i64) 0 23 3 .i64 Try.underlying23 hi07 hsz7 An cn n ((i : Int) + 1) (by omega) (by omega) hcn
  have e7 : ((i : Int) + 1).toNat = i + 1 := by omega
  rw [e7] at hA7 hC7
  have KT := Aside0.mk (impl_total.calls (i + 2) An cn (n.take (i + 1)) sm w (Kd.C_of_reads (h1 := fun _ => rfl) (hA7 _ (Kd.reads_of_C hrn))) hC7 hsum)
  rw [List.length_take] at KT
  have HL := Aside0.mk hlate
  have R0 := Aside0.mk hrn
  have R1 := Aside0.mk hrs
  have R2 := Aside0.mk hru
  have R3 := Aside0.mk hrh
  have R4 := Aside0.mk hrr
  have C0 := Aside0.mk hcn
  have C1 := Aside0.mk hcs
  have C2 := Aside0.mk hcu
  have C3 := Aside0.mk hch
  have C4 := Aside0.mk hcr
  have b1 : (0 : Int) ≤ (i : Int) := by omega
  have b2 : (i : Int) < (N : Int) := by omega
  have b3 : (0 : Int) ≤ (o : Int) := by omega
  have b4 : (0 : Int) ≤ (a : Int) := by omega
  have b5 : (o : Int) + (a : Int) < (row.length : Int) := by omega
  have b6 : (i : Int) + 1 < (N : Int) := by omega
  have b7 : (i : Int) ≤ 8 := by omega
  have b8 : (row.length : Int) ≤ 200 := by omega
  clear hx hnum hrow hA7 hC7 hi07 hsz7 hsum hlate hrn hrs hru hrh hrr hcn hcs hcu hch hcr e7 hbc hbr hbt
  go_enter Try.func73, Try.ntmps73
  go_wp2_with (go_at_call 61; (with_reducible refine KT.out.mono ?_); rintro e w1 ⟨rfl, hd⟩; have D1 := Aside0.mk hd.below; have k0 := pw_cell_below D1.out k0; have k1 := pw_cell_below D1.out k1; have k2 := pw_cell_below D1.out k2; have k3 := pw_cell_below D1.out k3; have k4 := pw_cell_below D1.out k4; have k5 := pw_cell_below D1.out k5; have hcell := pw_cell_below D1.out hcell; have hnum' := pw_cell_below D1.out hnum'; clear hd)
  have q0 : (0 : Int) ≤ (i : Int) + 1 := by omega
  have q4 : (0 : Int) ≤ (o : Int) + (a : Int) := by omega
  have q1 : IntKind.i64.wrap ((i : Int) + 1) = (i : Int) + 1 := (i64_w _).trans (impl_Case_bestLate.w64 (by omega) (by omega))
  have q2 : IntKind.i64.wrap ((o : Int) + (a : Int)) = (o : Int) + (a : Int) := (i64_w _).trans (impl_Case_bestLate.w64 (by omega) (by omega))
  have q3 : IntKind.i64.wrap (v + x) = v + x := (i64_w _).trans (impl_Case_bestLate.w64 (by omega) (by omega))
  go_region_held3 (fun w' => w'.cell? ⟨bc, 0, none⟩ = some (.slice An n.length cn) ∧ w'.cell? ⟨bc, 1, none⟩ = some (.slice As s.length cs) ∧ w'.cell? ⟨bc, 2, none⟩ = some (.slice Au u.length cu) ∧ w'.cell? ⟨bc, 3, none⟩ = some (.slice Ah h.length ch) ∧ w'.cell? ⟨br, 0, none⟩ = some (.slice Ar r.length cr) ∧ w'.cell? ⟨bt, 0, none⟩ = some (.slice (some ⟨gt, 0, none⟩) N N) ∧ w'.cell? ⟨gt, i + 1, none⟩ = some (.slice (some ad) row.length cx) ∧ w'.cell? (ad.add ((o : Int) + (a : Int)).toNat) = some (.int .i64 x))
    (first | go_keep | (go_split_ands; refine ⟨?_, ?_, ?_, ?_, ?_, ?_, ?_, ?_⟩ <;> exact pw_cell_below hq (by assumption)))
    ((go_at_call 74; (with_reducible refine (impl_Case_late.calls _ _ n _ _ s _ _ u _ _ h _ _ r (i : Int) (a : Int) ((o : Int) + a - sm) v _ (Kd.C_below R0.out (below_drew1 D1.out)) C0.out (Kd.C_below R1.out (below_drew1 D1.out)) C1.out (Kd.C_below R2.out (below_drew1 D1.out)) C2.out (Kd.C_below R3.out (below_drew1 D1.out)) C3.out (Kd.C_below R4.out (below_drew1 D1.out)) C4.out HL.out).mono ?_); rintro e w2 ⟨rfl, hq⟩; have D2 := Aside0.mk hq))
  go_wp2
  go_ret
  exact ⟨rfl, (below_drew1 D1.out).trans (D2.out.mono (by simp; exact D1.out.size))⟩
/-- The closure's call, in the law's own words. -/
theorem impl_Case_bestLate.with_ (n s u h r : List Int) (c : impl_Case_bestLate.Ok n s u h r) (An As Au Ah Ar : Option Addr) (cn cs cu ch cr bc br bt gt : Nat) (d i o a : Nat) (Ax : Option Addr) (cx : Nat) (w : World)
    (hi : i + (d + 1) = n.length) (ho : ((o + a : Nat) : Int) ≤ n.sum)
    (hrn : (Kd.int .i64).C w An n.length n) (hcn : n.length ≤ cn) (hrs : (Kd.int .i64).C w As s.length s) (hcs : s.length ≤ cs) (hru : (Kd.int .i64).C w Au u.length u) (hcu : u.length ≤ cu) (hrh : (Kd.int .i64).C w Ah h.length h) (hch : h.length ≤ ch) (hrr : (Kd.int .i64).C w Ar r.length r) (hcr : r.length ≤ cr)
    (hbc : w.heap[bc]? = some (.cells #[.slice An n.length cn, .slice As s.length cs, .slice Au u.length cu, .slice Ah h.length ch] 45 (0, 0)))
    (hbr : w.heap[br]? = some (.cells #[.slice Ar r.length cr] 23 (0, 0)))
    (hbt : w.heap[bt]? = some (.cells #[.slice (some ⟨gt, 0, none⟩) (n.length + 1) (n.length + 1)] 33 (0, 0)))
    (hcell : w.cell? ⟨gt, i + 1, none⟩ = some (.slice Ax (n.sum.toNat + 1) cx)) (hrow : (Kd.int .i64).C w Ax (impl_Case_bestLate.row n s u h r d).length (impl_Case_bestLate.row n s u h r d)) :
    Calls Try.prog 73 #[.int .i64 (i : Int), .int .i64 (o : Int), .int .i64 (a : Int), .pointer (some ⟨bc, 0, none⟩), .pointer (some ⟨br, 0, none⟩), .pointer (some ⟨bt, 0, none⟩)] w fun e w' => e = .returned (.int .i64 (impl_Case_bestLate.wth n s u h r d o a)) ∧ Below w.heap.size w w' := by
  have p := impl_Case_bestLate.pre_bd c (i + 1)
  have hn8 := c.1.1
  have vb := impl_Case_bestLate.V_bd c d (o + a) (by omega) ho
  have rb := impl_Case_bestLate.rt_bd c i (by omega) (a : Int) ((o : Int) + a - impl_Case_bestLate.pre n (i + 1)) (by omega) (by omega)
  have ra : rd (impl_Case_bestLate.row n s u h r d) ((o : Int) + (a : Int)) = impl_Case_bestLate.V n s u h r d (o + a) := by
    have := impl_Case_bestLate.row_at n s u h r d (o + a) (by omega)
    rwa [Int.natCast_add] at this
  have tl : (n.take (i + 1)).length + 1 = i + 2 := by rw [List.length_take]; omega
  have ht := impl_Case_bestLate.total_eq (n.take (i + 1)) (fun x hx => c.2.1 x (List.mem_of_mem_take hx)) (by omega)
  rw [tl] at ht
  have hl := impl_Case_bestLate.late_eq c i (by omega) (a : Int) ((o : Int) + a - impl_Case_bestLate.pre n (i + 1)) (by omega) (by omega)
  have rl := impl_Case_bestLate.row_len n s u h r d
  refine (impl_Case_bestLate.with_raw n s u h r An As Au Ah Ar cn cs cu ch cr bc br bt gt (n.length + 1) i o a Ax cx (n.sum.toNat + 1) (impl_Case_bestLate.row n s u h r d) (impl_Case_bestLate.pre n (i + 1)) (impl_Case_bestLate.rt s u h r i (a : Int) ((o : Int) + a - impl_Case_bestLate.pre n (i + 1))) w
    (by omega) (by omega) (by omega) (by omega) hn8 rl.symm hrn hcn hrs hcs hru hcu hrh hch hrr hcr hbc hbr hbt hcell hrow (by omega) (by omega) (by rw [ra]; exact vb) ht hl).mono ?_
  rintro e w' ⟨rfl, hb⟩
  refine ⟨?_, hb⟩
  rw [ra]
  unfold impl_Case_bestLate.wth
  rw [show n.length - (d + 1) = i by omega, show n.length - d = i + 1 by omega]
theorem impl_Case_bestLate.make_event {P : Program} {ops : Array Oper} {rest : List Oper} {o : Oper} {a : Act} {Q : Exit → Act → World → Prop} {W : World} (hgd : o.guard = none) {N : Tmp} (_hd : o.dst = some N) {cs : Array Value} {t : TypeId} {m : Nat}
    (hrun : (execOp a.eval o).run P W = .ok (.value (.slice (some ⟨W.heap.size, 0, none⟩) m m)) (W.alloc (.cells cs t (0, 0))))
    (h : ∀ g, g = W.heap.size → ∀ w1, w1.heap[g]? = some (.cells cs t (0, 0)) → Below W.heap.size W w1 → wpList P ops Q rest (a.put o.dst (.slice (some ⟨g, 0, none⟩) m m)) w1) : wpList P ops Q (o :: rest) a W :=
  Kd.event_run hgd hrun (h _ rfl _ (blk_new W _) (below_alloc (Below.refl _ _) _))
/-- The table, its last d rows made. -/
def impl_Case_bestLate.Tab (n s u h r : List Int) (w0 : World) (gt : Nat) (W : World) (d : Nat) : Prop :=
  ∃ cs : Array Value, W.heap[gt]? = some (.cells cs 23 (0, 0)) ∧ cs.size = n.length + 1 ∧
    (∀ j, j ≤ n.length → n.length < j + d → ∃ A c, cs[j]? = some (.slice A (n.sum.toNat + 1) c) ∧ Kd.R (Kd.int .i64) 3 W w0.heap.size (fun _ => True) (.slice A (n.sum.toNat + 1) c) (impl_Case_bestLate.row n s u h r (n.length - j))) ∧
    ∀ j, j + d ≤ n.length → cs[j]? = some (.slice none 0 0)
/-- Its row i under way: k numbers. -/
def impl_Case_bestLate.RowI (n s u h r : List Int) (w0 Wi : World) (gt i d : Nat) (cs : Array Value) (W : World) (k : Nat) (v : Value) : Prop :=
  KeepBut Wi W gt none ∧ W.heap[gt]? = some (.cells (cs.setIfInBounds i v) 23 (0, 0)) ∧ Kd.R (Kd.int .i64) 3 W Wi.heap.size (fun _ => True) v ((impl_Case_bestLate.row n s u h r d).take k) ∧ Below w0.heap.size w0 W
theorem impl_Case_bestLate.Tab.below {n s u h r : List Int} {w0 : World} {gt : Nat} {W W' : World} {d : Nat} (t : impl_Case_bestLate.Tab n s u h r w0 gt W d) (hb : Below W.heap.size W W') : impl_Case_bestLate.Tab n s u h r w0 gt W' d := by
  obtain ⟨cs, h1, h2, h3, h4⟩ := t
  refine ⟨cs, blk_below h1 hb, h2, fun j hj hd => ?_, h4⟩
  obtain ⟨A, c, e, hR⟩ := h3 j hj hd
  exact ⟨A, c, e, Kd.R_below hR hb⟩
theorem impl_Case_bestLate.RowI.below {n s u h r : List Int} {w0 Wi : World} {gt i d : Nat} {cs : Array Value} {W W' : World} {k : Nat} {v : Value} (t : impl_Case_bestLate.RowI n s u h r w0 Wi gt i d cs W k v) (hb : Below W.heap.size W W') : impl_Case_bestLate.RowI n s u h r w0 Wi gt i d cs W' k v := by
  obtain ⟨h1, h2, h3, h4⟩ := t
  exact ⟨h1.trans (KeepBut.of_below hb gt none) (.inl rfl), blk_below h2 hb, Kd.R_below h3 hb, below_step h4 hb⟩
theorem impl_Case_bestLate.RowI.start {n s u h r : List Int} {w0 W : World} {gt i d : Nat} {cs : Array Value} (h1 : W.heap[gt]? = some (.cells cs 23 (0, 0))) (h2 : cs[i]? = some (.slice none 0 0)) (hb : Below w0.heap.size w0 W) : impl_Case_bestLate.RowI n s u h r w0 W gt i d cs W 0 (.slice none 0 0) := by
  refine ⟨KeepBut.refl _ _ _, ?_, by rw [List.take_zero]; exact Kd.R_nil _ _ _ _ _, hb⟩
  rw [h1]
  congr 2
  obtain ⟨hi, e⟩ := Array.getElem?_eq_some_iff.1 h2
  apply Array.ext_getElem?
  intro j
  rw [Array.getElem?_setIfInBounds]
  split
  · rename_i ej
    subst ej
    simp [hi, e]
  · rfl
theorem impl_Case_bestLate.row_take (n s u h r : List Int) (d k : Nat) (hk : k < n.sum.toNat + 1) : (impl_Case_bestLate.row n s u h r d).take (k + 1) = (impl_Case_bestLate.row n s u h r d).take k ++ [impl_Case_bestLate.V n s u h r d k] := by
  unfold impl_Case_bestLate.row
  rw [List.take_succ_eq_append_getElem (by simpa using hk)]
  simp
/-- One number more: the row appended to, and stored back. -/
theorem impl_Case_bestLate.RowI.next {n s u h r : List Int} {w0 Wi : World} {gt i d : Nat} {cs : Array Value} {W W1 : World} {k : Nat} {v : Value} (t : impl_Case_bestLate.RowI n s u h r w0 Wi gt i d cs W k v) (hk : k < n.sum.toNat + 1) (hgt : gt < Wi.heap.size) (hw0 : w0.heap.size ≤ gt) (b : Obj) {g cap : Nat}
    (hgrow : ((W.alloc b).drew).grownBy W1 v.ownBlock) (hown : W1.ownsRow Wi.heap.size 3 1 (.slice (some ⟨g, 0, none⟩) (k + 1) cap) (k + 1) (encs (Value.int .i64) ((impl_Case_bestLate.row n s u h r d).take k) ++ [.int .i64 (impl_Case_bestLate.V n s u h r d k)])) (hbase : w0.heap.size ≤ Wi.heap.size) :
    impl_Case_bestLate.RowI n s u h r w0 Wi gt i d cs (W1.setCell ⟨gt, i, none⟩ (.slice (some ⟨g, 0, none⟩) (k + 1) cap)) (k + 1) (.slice (some ⟨g, 0, none⟩) (k + 1) cap) := by
  obtain ⟨h1, h2, h3, h4⟩ := t
  have hvb := Kd.R_base h3
  have hlen : ((impl_Case_bestLate.row n s u h r d).take (k + 1)).length = k + 1 := by rw [List.length_take, impl_Case_bestLate.row_len]; omega
  have ho : W1.ownsRow Wi.heap.size 3 1 (.slice (some ⟨g, 0, none⟩) (k + 1) cap) ((impl_Case_bestLate.row n s u h r d).take (k + 1)).length (encs (Value.int .i64) ((impl_Case_bestLate.row n s u h r d).take (k + 1))) := by
    rw [hlen, impl_Case_bestLate.row_take n s u h r d k hk, encs_append]; exact hown
  have hR : Kd.R (Kd.int .i64) 3 W1 Wi.heap.size (fun _ => True) (.slice (some ⟨g, 0, none⟩) (k + 1) cap) ((impl_Case_bestLate.row n s u h r d).take (k + 1)) := Kd.R_of_own (h1 := fun _ => rfl) ho (fun _ _ => trivial)
  have hb2 : Below W.heap.size W ((W.alloc b).drew) := below_drew1 (below_alloc (Below.refl _ _) b)
  have hne : some gt ≠ v.ownBlock := fun e => by have := hvb gt e.symm; omega
  have h2' := blk_below h2 hb2
  have h2'' := blk_grown h2' hgrow hne
  refine ⟨?_, ?_, ?_, ?_⟩
  · refine KeepBut.set_ (KeepBut.trans (h1.trans (KeepBut.of_below hb2 gt none) (.inl rfl)) ⟨hgrow.size, fun j hj hg hr => hgrow.block j hj hr⟩ ?_) i _
    cases e : v.ownBlock with
    | none => exact .inl rfl
    | some b => exact .inr ⟨b, rfl, hvb b e⟩
  · have := blk_set h2'' i (.slice (some ⟨g, 0, none⟩) (k + 1) cap)
    rw [this]; simp
  · exact Kd.R_mono (Kd.R_step (Kd.R_bound hR) (fun j hj _ => Below.heap_setCell W1 ⟨gt, i, none⟩ _ j (by have := hj.2.1; show j ≠ gt; omega))) (fun _ _ => trivial)
  · have hb3 := below_step h4 hb2
    exact below_set (pw_below_grown hb3 v.ownBlock hb3.size hgrow (fun j hj => by have := hvb j hj; omega)) hw0
/-- The row done. -/
theorem impl_Case_bestLate.RowI.done {n s u h r : List Int} {w0 Wi : World} {gt i d : Nat} {cs : Array Value} {W : World} {v : Value} (t : impl_Case_bestLate.RowI n s u h r w0 Wi gt i d cs W (n.sum.toNat + 1) v) (hi : i + d = n.length) (hgt : Wi.heap[gt]? = some (.cells cs 23 (0, 0))) (h2 : cs.size = n.length + 1) (hw : w0.heap.size ≤ Wi.heap.size)
    (h3 : ∀ j, j ≤ n.length → n.length < j + d → ∃ A c, cs[j]? = some (.slice A (n.sum.toNat + 1) c) ∧ Kd.R (Kd.int .i64) 3 Wi w0.heap.size (fun _ => True) (.slice A (n.sum.toNat + 1) c) (impl_Case_bestLate.row n s u h r (n.length - j)))
    (h4 : ∀ j, j + d ≤ n.length → cs[j]? = some (.slice none 0 0)) : impl_Case_bestLate.Tab n s u h r w0 gt W (d + 1) := by
  obtain ⟨k1, k2, k3, k4⟩ := t
  have hl := impl_Case_bestLate.row_len n s u h r d
  rw [List.take_of_length_le (by omega)] at k3
  obtain ⟨A, c, rfl⟩ := Kd.R_slice k3
  rw [hl] at k2 k3
  refine ⟨_, k2, by simpa using h2, fun j hj hd => ?_, fun j hd => ?_⟩
  · by_cases e : j = i
    · subst e
      refine ⟨A, c, ?_, ?_⟩
      · rw [Array.getElem?_setIfInBounds]; simp; omega
      · rw [show n.length - j = d by omega]; exact Kd.R_lower k3 hw
    · obtain ⟨A', c', e', hR⟩ := h3 j hj (by omega)
      refine ⟨A', c', by rw [Array.getElem?_setIfInBounds, if_neg (Ne.symm e)]; exact e', ?_⟩
      exact Kd.R_mono (Kd.R_step (Kd.R_types hR hgt (by decide)) (fun q hq hlt => k1.2 q hlt hq.2 (by simp))) (fun _ _ => trivial)
  · rw [Array.getElem?_setIfInBounds, if_neg (by omega)]
    exact h4 j (by omega)
/-- What the closure reads of it. -/
theorem impl_Case_bestLate.RowI.reads {n s u h r : List Int} {w0 Wi : World} {gt i d : Nat} {cs : Array Value} {W : World} {k : Nat} {v : Value} (t : impl_Case_bestLate.RowI n s u h r w0 Wi gt i d cs W k v) (hi : i + d = n.length) (hd : 0 < d) (hgt : Wi.heap[gt]? = some (.cells cs 23 (0, 0)))
    (h3 : ∀ j, j ≤ n.length → n.length < j + d → ∃ A c, cs[j]? = some (.slice A (n.sum.toNat + 1) c) ∧ Kd.R (Kd.int .i64) 3 Wi w0.heap.size (fun _ => True) (.slice A (n.sum.toNat + 1) c) (impl_Case_bestLate.row n s u h r (n.length - j))) :
    ∃ A c, W.cell? ⟨gt, i + 1, none⟩ = some (.slice A (n.sum.toNat + 1) c) ∧ (Kd.int .i64).C W A (impl_Case_bestLate.row n s u h r (d - 1)).length (impl_Case_bestLate.row n s u h r (d - 1)) := by
  obtain ⟨k1, k2, k3, k4⟩ := t
  obtain ⟨A, c, e, hR⟩ := h3 (i + 1) (by omega) (by omega)
  refine ⟨A, c, ?_, ?_⟩
  · refine (blk_cell k2 (i + 1)).trans ?_
    rw [Array.getElem?_setIfInBounds, if_neg (by omega)]
    exact e
  · rw [show n.length - (i + 1) = d - 1 by omega] at hR
    exact (Kd.R_reads' (Kd.R_step (Kd.R_types hR hgt (by decide)) (fun q hq hlt => k1.2 q hlt hq.2 (by simp)))).2.2
/-- Its own cell. -/
theorem impl_Case_bestLate.RowI.cell {n s u h r : List Int} {w0 Wi : World} {gt i d : Nat} {cs : Array Value} {W : World} {k : Nat} {v : Value} (t : impl_Case_bestLate.RowI n s u h r w0 Wi gt i d cs W k v) (hi : i < cs.size) : W.cell? ⟨gt, i, none⟩ = some v ∧ W.frozen? ⟨gt, i, none⟩ = false := by
  obtain ⟨k1, k2, k3, k4⟩ := t
  refine ⟨(blk_cell k2 i).trans ?_, blk_frozen k2 i⟩
  rw [Array.getElem?_setIfInBounds]; simp [hi]
theorem impl_Case_bestLate.Tab.start {n s u h r : List Int} {w0 W : World} {gt : Nat} (h1 : W.heap[gt]? = some (.cells (madeCells #[.slice none 0 0] (n.length + 1)) 23 (0, 0))) : impl_Case_bestLate.Tab n s u h r w0 gt W 0 := by
  refine ⟨_, h1, by simp [size_madeCells], fun j hj hd => by omega, fun j hj => ?_⟩
  have hl : j < n.length + 1 := by omega
  simp [madeCells, Nat.mod_one, hl]
/-- The row as it stands when its loop begins, and the boxes. -/
theorem impl_Case_bestLate.RowI.box {n s u h r : List Int} {w0 Wi : World} {gt i d : Nat} {cs : Array Value} {W : World} {k : Nat} {v : Value} (t : impl_Case_bestLate.RowI n s u h r w0 Wi gt i d cs W k v) {g : Nat} {o : Obj} (hb : Wi.heap[g]? = some o) (hne : g ≠ gt) : W.heap[g]? = some o := t.1.blk hb hne (by simp)
set_option maxHeartbeats 8000000 in
set_option maxRecDepth 100000 in
theorem impl_Case_bestLate.walk (n s u hl r : List Int) (c : impl_Case_bestLate.Ok n s u hl r) (An As Au Ah Ar : Option Addr) (cn cs cu ch cr : Nat) (w : World)
    (hrn : (Kd.int .i64).C w An n.length n) (hcn : n.length ≤ cn) (hrs : (Kd.int .i64).C w As s.length s) (hcs : s.length ≤ cs) (hru : (Kd.int .i64).C w Au u.length u) (hcu : u.length ≤ cu) (hrh : (Kd.int .i64).C w Ah hl.length hl) (hch : hl.length ≤ ch) (hrr : (Kd.int .i64).C w Ar r.length r) (hcr : r.length ≤ cr) :
    Calls Try.prog 58 #[.agg #[.slice An n.length cn, .slice As s.length cs, .slice Au u.length cu, .slice Ah hl.length ch], .slice Ar r.length cr] w fun e w' => ∃ v0_ : Value, e = .returned (.tuple #[v0_, .int .i64 (impl_Case_bestLate.V n s u hl r n.length 0)]) ∧ Kd.R (Kd.int .i64) 3 w' w.heap.size (fun _ => True) v0_ (impl_Case_bestLate.plan n s u hl r n.length 0) ∧ Below w.heap.size w w' := by
  have CK := Aside0.mk c
  have R0 := Aside0.mk hrn
  have R1 := Aside0.mk hrs
  have R2 := Aside0.mk hru
  have R3 := Aside0.mk hrh
  have R4 := Aside0.mk hrr
  have C0 := Aside0.mk hcn
  have C1 := Aside0.mk hcs
  have C2 := Aside0.mk hcu
  have C3 := Aside0.mk hch
  have C4 := Aside0.mk hcr
  have p0 := impl_Case_bestLate.pre_bd c 0
  have n8 : (n.length : Int) ≤ 8 := by have := c.1.1; omega
  have all1 : n.sum ≤ 160 := p0.2.2
  have all0 : (0 : Int) ≤ n.sum := by omega
  have HT := Aside0.mk (impl_Case_bestLate.total_eq n c.2.1 c.1.1)
  clear hrn hrs hru hrh hrr hcn hcs hcu hch hcr p0 c
  have HB := Aside0.mk (Below.refl w.heap.size w)
  have hmk := print_make_of (P := Try.prog) 33 23 (.slice none 0 0) 24 Try.underlying33 (show (Try.prog.info? 23).map (fun i => (i.zero, i.size, i.bytes)) = some (some (.slice none 0 0), 1, 24) by kernel_rfl) rfl (by decide)
  go_enter Try.func58, Try.ntmps58
  go_wp2_with (first
    | ((with_reducible refine gate_dst (N := 2) rfl ?_); refine box_event ?hg (N := 2) ?hd (cs := #[.slice An n.length cn, .slice As s.length cs, .slice Au u.length cu, .slice Ah hl.length ch]) (t := 45) ?hr ?_; (case hd => rfl); (case hg => rfl); (case hr => first | (go_simp; done) | (go_simp; rfl)); intro bc hg w1 hbox hb; have BC := Aside0.mk hbox; have NC := Aside0.mk (show w.heap.size ≤ bc ∧ bc < w1.heap.size from ⟨Nat.le_of_eq hg.symm, blk_lt hbox⟩); have HB1 := Aside0.mk (below_step HB.out hb); clear hbox hg hb)
    | ((with_reducible refine gate_dst (N := 3) rfl ?_); refine box_event ?hg (N := 3) ?hd (cs := #[.slice Ar r.length cr]) (t := 23) ?hr ?_; (case hd => rfl); (case hg => rfl); (case hr => first | (go_simp; done) | (go_simp; rfl)); intro br hg w2 hbox hb; have BR := Aside0.mk hbox; have NR := Aside0.mk (show w1.heap.size ≤ br ∧ br < w2.heap.size from ⟨Nat.le_of_eq hg.symm, blk_lt hbox⟩); have BC2 := Aside0.mk (blk_below BC.out hb); have HB2 := Aside0.mk (below_step HB1.out hb); clear hbox hg hb))
  have k0 : w2.cell? ⟨bc, 0, none⟩ = some (.slice An n.length cn) := (blk_cell BC2.out 0).trans rfl
  go_quiet ((go_at_call 61; (with_reducible refine (impl_total.calls (n.length + 1) _ _ n n.sum _ (Kd.C_below R0.out (pw_below_drewN HB2.out _)) C0.out HT.out).mono ?_); rintro e w' ⟨rfl, ⟨nd, rfl⟩⟩; exact ⟨rfl, _, World.drewN_drewN _ _ _⟩))
  have BC3 := Aside0.mk (blk_drewN BC2.out nq)
  have BR3 := Aside0.mk (blk_drewN BR.out nq)
  have HB3 := Aside0.mk (pw_below_drewN HB2.out nq)
  have Z3 := Aside0.mk (show w2.heap.size ≤ (w2.drewN nq).heap.size from Nat.le_refl _)
  generalize w2.drewN nq = w3 at BC3 BR3 HB3 Z3 ⊢
  have hmk1 := hmk (n.length + 1) (by omega)
  rw [show ((n.length + 1 : Nat) : Int) = (n.length : Int) + 1 from rfl] at hmk1
  clear hmk
  go_wp2_with (first
    | ((with_reducible refine gate_dst (N := 26) rfl ?_); refine impl_Case_bestLate.make_event ?hg (N := 26) ?hd (cs := madeCells #[.slice none 0 0] (n.length + 1)) (t := 23) (m := n.length + 1) ?hr ?_; (case hd => rfl); (case hg => rfl); (case hr => first | (go_simp; done) | (go_simp; rfl)); intro gt hg w4 hbox hb; have GT := Aside0.mk hbox; have NG := Aside0.mk (show w3.heap.size ≤ gt ∧ gt < w4.heap.size from ⟨Nat.le_of_eq hg.symm, blk_lt hbox⟩); have BC4 := Aside0.mk (blk_below BC3.out hb); have BR4 := Aside0.mk (blk_below BR3.out hb); have HB4 := Aside0.mk (below_step HB3.out hb); clear hbox hg hb)
    | ((with_reducible refine gate_dst (N := 8) rfl ?_); refine box_event ?hg (N := 8) ?hd (cs := #[.slice none 0 0]) (t := 33) ?hr ?_; (case hd => rfl); (case hg => rfl); (case hr => first | (go_simp; done) | (go_simp; rfl)); intro bt hg w5 hbox hb; have BT := Aside0.mk hbox; have NT := Aside0.mk (show w4.heap.size ≤ bt ∧ bt < w5.heap.size from ⟨Nat.le_of_eq hg.symm, blk_lt hbox⟩); have BC5 := Aside0.mk (blk_below BC4.out hb); have BR5 := Aside0.mk (blk_below BR4.out hb); have GT5 := Aside0.mk (blk_below GT.out hb); have HB5 := Aside0.mk (below_step HB4.out hb); have hz := (blk_cell BT.out 0).trans (show _ = some (.slice none 0 0 : Value) from rfl); have hf := blk_frozen BT.out 0; clear hbox hg hb))
  generalize hw6 : World.setCell w5 ⟨bt, 0, none⟩ (.slice (some ⟨gt, 0, none⟩) (n.length + 1) (n.length + 1)) = w6
  have q1 := NC.out
  have q2 := NR.out
  have q3 := Z3.out
  have q4 := NG.out
  have q5 := NT.out
  have NE1 := Aside0.mk (show bc ≠ gt by omega)
  have NE2 := Aside0.mk (show br ≠ gt by omega)
  have NE3 := Aside0.mk (show bt ≠ gt by omega)
  have WG := Aside0.mk (show w.heap.size ≤ gt by have := HB4.out.size; omega)
  have BT6 := Aside0.mk (show w6.heap[bt]? = some (.cells #[.slice (some ⟨gt, 0, none⟩) (n.length + 1) (n.length + 1)] 33 (0, 0)) by rw [← hw6]; exact blk_put BT.out 0 _ rfl)
  have BC6 := Aside0.mk (show w6.heap[bc]? = some (.cells #[.slice An n.length cn, .slice As s.length cs, .slice Au u.length cu, .slice Ah hl.length ch] 45 (0, 0)) by rw [← hw6]; exact blk_far BC5.out (by show bc ≠ bt; omega) _)
  have BR6 := Aside0.mk (show w6.heap[br]? = some (.cells #[.slice Ar r.length cr] 23 (0, 0)) by rw [← hw6]; exact blk_far BR5.out (by show br ≠ bt; omega) _)
  have HB6 := Aside0.mk (show Below w.heap.size w w6 by rw [← hw6]; exact below_set HB5.out (by have := HB4.out.size; omega))
  have TB6 := Aside0.mk (impl_Case_bestLate.Tab.start (n := n) (s := s) (u := u) (h := hl) (r := r) (w0 := w) (show w6.heap[gt]? = some (.cells (madeCells #[.slice none 0 0] (n.length + 1)) 23 (0, 0)) by rw [← hw6]; exact blk_far GT5.out (by show gt ≠ bt; omega) _))
  clear hw6 hz hf hmk1 q1 q2 q3 q4 q5 BC BC2 BC3 BC4 BC5 BR BR3 BR4 BR5 GT GT5 BT HB HB1 HB2 HB3 HB4 HB5 NC NR NG NT Z3 k0
  go_loopg [10] (n.length + 1) (fun kq v10 W => ∃ z : Int, v10 = .int .i64 z ∧ Aside0 (-1 ≤ z ∧ z ≤ (n.length : Int) ∧ (kq : Int) = z + 1) ∧ Aside0 (impl_Case_bestLate.Tab n s u hl r w gt W ((n.length : Int) - z).toNat) ∧ Aside0 (W.heap[bc]? = some (.cells #[.slice An n.length cn, .slice As s.length cs, .slice Au u.length cu, .slice Ah hl.length ch] 45 (0, 0))) ∧ Aside0 (W.heap[br]? = some (.cells #[.slice Ar r.length cr] 23 (0, 0))) ∧ Aside0 (W.heap[bt]? = some (.cells #[.slice (some ⟨gt, 0, none⟩) (n.length + 1) (n.length + 1)] 33 (0, 0))) ∧ Aside0 (Below w.heap.size w W))
  case atStart => exact ⟨(n.length : Int), rfl, ⟨by omega, by omega, by omega⟩, ⟨by rw [show ((n.length : Int) - n.length).toNat = 0 by omega]; exact TB6.out⟩, BC6, BR6, BT6, HB6⟩
  case round =>
    clear TB6 BC6 BR6 BT6 HB6
    obtain ⟨z, rfl, HZ, TB, BC, BR, BT, HB⟩ := hrel
    by_cases hz : 0 ≤ z
    · obtain ⟨i, rfl⟩ := Int.eq_ofNat_of_zero_le hz
      obtain ⟨d, hd⟩ : ∃ d, i + d = n.length := ⟨n.length - i, by have := HZ.out; omega⟩
      have TB' := TB.out
      rw [show ((n.length : Int) - (i : Int)).toNat = d by omega] at TB'
      obtain ⟨cs', t1, t2, t3, t4⟩ := TB'
      have T1 := Aside0.mk t1
      have T2 := Aside0.mk t2
      have T3 := Aside0.mk t3
      have T4 := Aside0.mk t4
      have HD := Aside0.mk hd
      have i8 : (i : Int) ≤ 8 := by omega
      clear t1 t2 t3 t4 hd TB hz
      obtain ⟨wi, rfl⟩ : ∃ wi : World, wi = wr := ⟨_, rfl⟩
      have ST := Aside0.mk (impl_Case_bestLate.RowI.start (n := n) (s := s) (u := u) (h := hl) (r := r) (d := d) T1.out (T4.out i (by have := HD.out; omega)) HB.out)
      obtain ⟨i0, hi0, hz0, hz1, hz2⟩ := info_parts info3
      go_wp2
      go_loopg [35] (n.sum.toNat + 2) (fun kq v35 W => ∃ (k : Nat) (v : Value), v35 = .int .i64 (k : Int) ∧ Aside0 (k ≤ n.sum.toNat + 1 ∧ kq + k = n.sum.toNat + 2) ∧ Aside0 (impl_Case_bestLate.RowI n s u hl r w wi gt i d cs' W k v))
      case atStart => exact ⟨0, _, rfl, ⟨by omega, by omega⟩, ST⟩
      case round =>
        clear ST
        obtain ⟨k, v, rfl, HKA, RV⟩ := hrel
        by_cases hk : (k : Int) < n.sum + 1
        · have k160 : (k : Int) ≤ 160 := by omega
          have k0 : (k : Int) ≤ n.sum := by omega
          by_cases hin : i < n.length
          · have hin' : (i : Int) < (n.length : Int) := by omega
            have d1 := Aside0.mk (show 0 < d by have := HD.out; omega)
            go_wp2
            go_loopg [12, 46] (n.sum.toNat + 2) (fun kq v12 v46 W => ∃ (a : Nat) (x : Int), v46 = .int .i64 (a : Int) ∧ v12 = .int .i64 x ∧ Aside0 (x = impl_Case_bestLate.least (fun a => impl_Case_bestLate.wth n s u hl r (d - 1) k a) a) ∧ Aside0 (a + k ≤ n.sum.toNat + 1 ∧ kq + a = n.sum.toNat + 2) ∧ Aside0 (impl_Case_bestLate.RowI n s u hl r w wi gt i d cs' W k v))
            case atStart => exact ⟨0, _, rfl, rfl, ⟨rfl⟩, ⟨by omega, by omega⟩, RV⟩
            case round =>
              clear RV
              obtain ⟨a, x, rfl, rfl, HX0, HA, RV⟩ := hrel
              by_cases ha : (a : Int) < n.sum - (k : Int) + 1
              · obtain ⟨Ax, cx, hcell, hrow⟩ := impl_Case_bestLate.RowI.reads RV.out HD.out d1.out T1.out T3.out
                have R5 := RV.out
                have KC := Aside0.mk (impl_Case_bestLate.with_ n s u hl r CK.out An As Au Ah Ar cn cs cu ch cr bc br bt gt (d - 1) i k a Ax cx wr (by have := d1.out; have := HD.out; omega) (by omega) (Kd.C_below R0.out R5.2.2.2) C0.out (Kd.C_below R1.out R5.2.2.2) C1.out (Kd.C_below R2.out R5.2.2.2) C2.out (Kd.C_below R3.out R5.2.2.2) C3.out (Kd.C_below R4.out R5.2.2.2) C4.out
                  (impl_Case_bestLate.RowI.box R5 BC.out NE1.out) (impl_Case_bestLate.RowI.box R5 BR.out NE2.out) (impl_Case_bestLate.RowI.box R5 BT.out NE3.out) hcell hrow)
                clear hcell hrow R5
                have a160 : (a : Int) ≤ 160 := by omega
                go_wp2_with (go_at_call 73; (with_reducible refine KC.out.mono ?_); rintro e w8 ⟨rfl, hb⟩; have RV8 := Aside0.mk (impl_Case_bestLate.RowI.below RV.out hb); clear hb)
                all_goals
                  go_roundg (n.sum.toNat + 2 - (a + 1))
                  case measure => have := HA.out; omega
                  case rel => exact ⟨a + 1, _, (by first | rfl | (simp; done)), rfl, ⟨by rw [show impl_Case_bestLate.least (fun a => impl_Case_bestLate.wth n s u hl r (d - 1) k a) (a + 1) = mn (impl_Case_bestLate.least (fun a => impl_Case_bestLate.wth n s u hl r (d - 1) k a) a) (impl_Case_bestLate.wth n s u hl r (d - 1) k a) from rfl, ← HX0.out]; unfold mn; split <;> first | rfl | omega⟩, ⟨by have := HA.out; omega, by have := HA.out; omega⟩, RV8⟩
              · have HX := Aside0.mk (show x = impl_Case_bestLate.V n s u hl r d k by
                  have e1 := d1.out
                  obtain ⟨d', rfl⟩ : ∃ d', d = d' + 1 := ⟨d - 1, by omega⟩
                  rw [HX0.out, show a = n.sum.toNat - k + 1 by have := HA.out; omega]
                  rfl)
                go_wp2_with fail
                have R5 := RV.out
                obtain ⟨Av, cv, rfl⟩ := Kd.R_slice R5.2.2.1
                have hkl : ((impl_Case_bestLate.row n s u hl r d).take k).length = k := by rw [List.length_take, impl_Case_bestLate.row_len]; have := HKA.out.1; omega
                rw [hkl] at R5
                have XV := Aside0.mk R5
                obtain ⟨hcl, hfz⟩ := impl_Case_bestLate.RowI.cell R5 (show i < cs'.size by have := T2.out; have := HD.out; omega)
                have hbx := (blk_cell (impl_Case_bestLate.RowI.box R5 BT.out NE3.out) 0).trans (show _ = some (.slice (some ⟨gt, 0, none⟩) (n.length + 1) (n.length + 1) : Value) from rfl)
                have hown := Kd.own_of_R (h1 := fun _ => rfl) R5.2.2.1
                rw [hkl] at hown
                have hvb := Kd.R_base R5.2.2.1
                have hgl : gt < wi.heap.size := blk_lt T1.out
                have hbl : bt < wi.heap.size := blk_lt BT.out
                have hsz : wi.heap.size ≤ wr.heap.size := R5.1.1
                have ag : (Value.slice Av k cv).ownBlock ≠ some gt := fun e => by have := hvb gt e; omega
                have at_ : (Value.slice Av k cv).ownBlock ≠ some bt := fun e => by have := hvb bt e; omega
                have k200 : (k + 1) * 8 ≤ 140737488355328 := by have := HKA.out.1; omega
                have kmx : k + 1 ≤ maxLen := by unfold maxLen; omega
                have j0 : (0 : Int) ≤ (i : Int) := by omega
                have j1 : (i : Int) < (n.length : Int) + 1 := by have := HD.out; omega
                have HOWN := Aside0.mk hown
                clear hown hvb R5 RV hkl
                have hfk : ∀ o : Obj, ((wr.alloc o).drew).frozen? ⟨gt, i, none⟩ = false := fun o => ((below_drew1 (below_alloc (Below.refl _ _) o)).frozen (p := ⟨gt, i, none⟩) (Nat.lt_of_lt_of_le hgl hsz)).trans hfz
                have hfd : wr.drew.frozen? ⟨gt, i, none⟩ = false := ((below_drew1 (Below.refl _ _)).frozen (p := ⟨gt, i, none⟩) (Nat.lt_of_lt_of_le hgl hsz)).trans hfz
                have hca : ∀ o : Obj, (wr.alloc o).cell? ⟨gt, i, none⟩ = some (.slice Av k cv) := fun o => pw_cell_below (below_alloc (Below.refl _ _) o) hcl
                have hba : ∀ o : Obj, (wr.alloc o).cell? ⟨bt, 0, none⟩ = some (.slice (some ⟨gt, 0, none⟩) (n.length + 1) (n.length + 1)) := fun o => pw_cell_below (below_alloc (Below.refl _ _) o) hbx
                go_region_law ((refine step_append_lies _ (by rfl) _ _ _ (by rfl) wi.heap.size 3 i0 _ 1 8 Try.underlying23 hi0 hz0 hz1 hz2 rfl (by omega) (.slice Av k cv) k _ (by rfl) ((HOWN.out.alloc _).drew) ⟨wr.heap.size, 0, none⟩ 1 1 [.int .i64 x] (by rfl) (by rfl) (World.news_of_block (cs := #[.int .i64 x]) (t := 3) (fr := (0, 0)) (heap_alloc_new wr _)) (by simp [Value.oneCell']) (by omega) kmx k200 (by simp; omega) (wr.heap.size + 1) (by simp) ?_; intro gg cap w9 hown1 hgrow hat hlt; have hc9 : w9.cell? ⟨gt, i, none⟩ = some (.slice Av k cv) := (hgrow.cell_far _ (by simp; omega) (Ne.symm ag)).trans (hca _); have hf9 : w9.frozen? ⟨gt, i, none⟩ = false := (hgrow.frozen_far _ (by simp; omega) (Ne.symm ag)).trans (by first | exact hfk _ | assumption); have hb9 : w9.cell? ⟨bt, 0, none⟩ = some (.slice (some ⟨gt, 0, none⟩) (n.length + 1) (n.length + 1)) := (hgrow.cell_far _ (by simp; omega) (Ne.symm at_)).trans (hba _)))
                all_goals
                  have RN := Aside0.mk (impl_Case_bestLate.RowI.next XV.out (show k < n.sum.toNat + 1 by omega) hgl WG.out _ hgrow (by rw [← HX.out]; exact hown1) (by have := HB.out.size; omega))
                  clear hown1 hgrow hat hlt XV HOWN hcl hfz hbx ag at_ k200 kmx hfk hfd hca hba hc9 hf9 hb9
                  go_wp2
                  go_roundg (n.sum.toNat + 2 - (k + 1))
                  case measure => have := HKA.out; omega
                  case rel => exact ⟨k + 1, _, (by first | rfl | (simp; done)), ⟨by have := HKA.out; omega, by have := HKA.out; omega⟩, RN⟩
          · have hin' : ¬ (i : Int) < (n.length : Int) := by omega
            have hin2 : decide ((i : Int) < (n.length : Int)) = false := decide_eq_false hin'
            have hin3 : decide (i < n.length) = false := decide_eq_false hin
            have hd0 : d = 0 := by have := HD.out; omega
            clear hin' hin
            by_cases hall : (k : Int) = n.sum
            · have HX := Aside0.mk (show (0 : Int) = impl_Case_bestLate.V n s u hl r d k by rw [hd0]; simp only [impl_Case_bestLate.V]; rw [if_pos hall])
              have e1 : ((k : Int) == n.sum) = true := beq_iff_eq.2 hall
              have e2 : decide ((k : Int) = n.sum) = true := decide_eq_true hall
              clear hall hd0
              go_wp2_with fail
              have R5 := RV.out
              obtain ⟨Av, cv, rfl⟩ := Kd.R_slice R5.2.2.1
              have hkl : ((impl_Case_bestLate.row n s u hl r d).take k).length = k := by rw [List.length_take, impl_Case_bestLate.row_len]; have := HKA.out.1; omega
              rw [hkl] at R5
              have XV := Aside0.mk R5
              obtain ⟨hcl, hfz⟩ := impl_Case_bestLate.RowI.cell R5 (show i < cs'.size by have := T2.out; have := HD.out; omega)
              have hbx := (blk_cell (impl_Case_bestLate.RowI.box R5 BT.out NE3.out) 0).trans (show _ = some (.slice (some ⟨gt, 0, none⟩) (n.length + 1) (n.length + 1) : Value) from rfl)
              have hown := Kd.own_of_R (h1 := fun _ => rfl) R5.2.2.1
              rw [hkl] at hown
              have hvb := Kd.R_base R5.2.2.1
              have hgl : gt < wi.heap.size := blk_lt T1.out
              have hbl : bt < wi.heap.size := blk_lt BT.out
              have hsz : wi.heap.size ≤ wr.heap.size := R5.1.1
              have ag : (Value.slice Av k cv).ownBlock ≠ some gt := fun e => by have := hvb gt e; omega
              have at_ : (Value.slice Av k cv).ownBlock ≠ some bt := fun e => by have := hvb bt e; omega
              have k200 : (k + 1) * 8 ≤ 140737488355328 := by have := HKA.out.1; omega
              have kmx : k + 1 ≤ maxLen := by unfold maxLen; omega
              have j0 : (0 : Int) ≤ (i : Int) := by omega
              have j1 : (i : Int) < (n.length : Int) + 1 := by have := HD.out; omega
              have HOWN := Aside0.mk hown
              clear hown hvb R5 RV hkl
              have hfk : ∀ o : Obj, ((wr.alloc o).drew).frozen? ⟨gt, i, none⟩ = false := fun o => ((below_drew1 (below_alloc (Below.refl _ _) o)).frozen (p := ⟨gt, i, none⟩) (Nat.lt_of_lt_of_le hgl hsz)).trans hfz
              have hfd : wr.drew.frozen? ⟨gt, i, none⟩ = false := ((below_drew1 (Below.refl _ _)).frozen (p := ⟨gt, i, none⟩) (Nat.lt_of_lt_of_le hgl hsz)).trans hfz
              have hca : ∀ o : Obj, (wr.alloc o).cell? ⟨gt, i, none⟩ = some (.slice Av k cv) := fun o => pw_cell_below (below_alloc (Below.refl _ _) o) hcl
              have hba : ∀ o : Obj, (wr.alloc o).cell? ⟨bt, 0, none⟩ = some (.slice (some ⟨gt, 0, none⟩) (n.length + 1) (n.length + 1)) := fun o => pw_cell_below (below_alloc (Below.refl _ _) o) hbx
              go_region_law ((refine step_append_lies _ (by rfl) _ _ _ (by rfl) wi.heap.size 3 i0 _ 1 8 Try.underlying23 hi0 hz0 hz1 hz2 rfl (by omega) (.slice Av k cv) k _ (by rfl) ((HOWN.out.alloc _).drew) ⟨wr.heap.size, 0, none⟩ 1 1 [.int .i64 0] (by rfl) (by rfl) (World.news_of_block (cs := #[.int .i64 0]) (t := 3) (fr := (0, 0)) (heap_alloc_new wr _)) (by simp [Value.oneCell']) (by omega) kmx k200 (by simp; omega) (wr.heap.size + 1) (by simp) ?_; intro gg cap w9 hown1 hgrow hat hlt; have hc9 : w9.cell? ⟨gt, i, none⟩ = some (.slice Av k cv) := (hgrow.cell_far _ (by simp; omega) (Ne.symm ag)).trans (hca _); have hf9 : w9.frozen? ⟨gt, i, none⟩ = false := (hgrow.frozen_far _ (by simp; omega) (Ne.symm ag)).trans (by first | exact hfk _ | assumption); have hb9 : w9.cell? ⟨bt, 0, none⟩ = some (.slice (some ⟨gt, 0, none⟩) (n.length + 1) (n.length + 1)) := (hgrow.cell_far _ (by simp; omega) (Ne.symm at_)).trans (hba _)))
              all_goals
                have RN := Aside0.mk (impl_Case_bestLate.RowI.next XV.out (show k < n.sum.toNat + 1 by omega) hgl WG.out _ hgrow (by rw [← HX.out]; exact hown1) (by have := HB.out.size; omega))
                clear hown1 hgrow hat hlt XV HOWN hcl hfz hbx ag at_ k200 kmx hfk hfd hca hba hc9 hf9 hb9
                go_wp2
                go_roundg (n.sum.toNat + 2 - (k + 1))
                case measure => have := HKA.out; omega
                case rel => exact ⟨k + 1, _, (by first | rfl | (simp; done)), ⟨by have := HKA.out; omega, by have := HKA.out; omega⟩, RN⟩
            · have HX := Aside0.mk (show (1099511627776 : Int) = impl_Case_bestLate.V n s u hl r d k by rw [hd0]; simp only [impl_Case_bestLate.V]; rw [if_neg hall])
              have e1 : ((k : Int) == n.sum) = false := beq_eq_false_iff_ne.2 hall
              have e2 : decide ((k : Int) = n.sum) = false := decide_eq_false hall
              clear hall hd0
              go_wp2_with fail
              have R5 := RV.out
              obtain ⟨Av, cv, rfl⟩ := Kd.R_slice R5.2.2.1
              have hkl : ((impl_Case_bestLate.row n s u hl r d).take k).length = k := by rw [List.length_take, impl_Case_bestLate.row_len]; have := HKA.out.1; omega
              rw [hkl] at R5
              have XV := Aside0.mk R5
              obtain ⟨hcl, hfz⟩ := impl_Case_bestLate.RowI.cell R5 (show i < cs'.size by have := T2.out; have := HD.out; omega)
              have hbx := (blk_cell (impl_Case_bestLate.RowI.box R5 BT.out NE3.out) 0).trans (show _ = some (.slice (some ⟨gt, 0, none⟩) (n.length + 1) (n.length + 1) : Value) from rfl)
              have hown := Kd.own_of_R (h1 := fun _ => rfl) R5.2.2.1
              rw [hkl] at hown
              have hvb := Kd.R_base R5.2.2.1
              have hgl : gt < wi.heap.size := blk_lt T1.out
              have hbl : bt < wi.heap.size := blk_lt BT.out
              have hsz : wi.heap.size ≤ wr.heap.size := R5.1.1
              have ag : (Value.slice Av k cv).ownBlock ≠ some gt := fun e => by have := hvb gt e; omega
              have at_ : (Value.slice Av k cv).ownBlock ≠ some bt := fun e => by have := hvb bt e; omega
              have k200 : (k + 1) * 8 ≤ 140737488355328 := by have := HKA.out.1; omega
              have kmx : k + 1 ≤ maxLen := by unfold maxLen; omega
              have j0 : (0 : Int) ≤ (i : Int) := by omega
              have j1 : (i : Int) < (n.length : Int) + 1 := by have := HD.out; omega
              have HOWN := Aside0.mk hown
              clear hown hvb R5 RV hkl
              have hfk : ∀ o : Obj, ((wr.alloc o).drew).frozen? ⟨gt, i, none⟩ = false := fun o => ((below_drew1 (below_alloc (Below.refl _ _) o)).frozen (p := ⟨gt, i, none⟩) (Nat.lt_of_lt_of_le hgl hsz)).trans hfz
              have hfd : wr.drew.frozen? ⟨gt, i, none⟩ = false := ((below_drew1 (Below.refl _ _)).frozen (p := ⟨gt, i, none⟩) (Nat.lt_of_lt_of_le hgl hsz)).trans hfz
              have hca : ∀ o : Obj, (wr.alloc o).cell? ⟨gt, i, none⟩ = some (.slice Av k cv) := fun o => pw_cell_below (below_alloc (Below.refl _ _) o) hcl
              have hba : ∀ o : Obj, (wr.alloc o).cell? ⟨bt, 0, none⟩ = some (.slice (some ⟨gt, 0, none⟩) (n.length + 1) (n.length + 1)) := fun o => pw_cell_below (below_alloc (Below.refl _ _) o) hbx
              go_region_law ((refine step_append_lies _ (by rfl) _ _ _ (by rfl) wi.heap.size 3 i0 _ 1 8 Try.underlying23 hi0 hz0 hz1 hz2 rfl (by omega) (.slice Av k cv) k _ (by rfl) ((HOWN.out.alloc _).drew) ⟨wr.heap.size, 0, none⟩ 1 1 [.int .i64 1099511627776] (by rfl) (by rfl) (World.news_of_block (cs := #[.int .i64 1099511627776]) (t := 3) (fr := (0, 0)) (heap_alloc_new wr _)) (by simp [Value.oneCell']) (by omega) kmx k200 (by simp; omega) (wr.heap.size + 1) (by simp) ?_; intro gg cap w9 hown1 hgrow hat hlt; have hc9 : w9.cell? ⟨gt, i, none⟩ = some (.slice Av k cv) := (hgrow.cell_far _ (by simp; omega) (Ne.symm ag)).trans (hca _); have hf9 : w9.frozen? ⟨gt, i, none⟩ = false := (hgrow.frozen_far _ (by simp; omega) (Ne.symm ag)).trans (by first | exact hfk _ | assumption); have hb9 : w9.cell? ⟨bt, 0, none⟩ = some (.slice (some ⟨gt, 0, none⟩) (n.length + 1) (n.length + 1)) := (hgrow.cell_far _ (by simp; omega) (Ne.symm at_)).trans (hba _)))
              all_goals
                have RN := Aside0.mk (impl_Case_bestLate.RowI.next XV.out (show k < n.sum.toNat + 1 by omega) hgl WG.out _ hgrow (by rw [← HX.out]; exact hown1) (by have := HB.out.size; omega))
                clear hown1 hgrow hat hlt XV HOWN hcl hfz hbx ag at_ k200 kmx hfk hfd hca hba hc9 hf9 hb9
                go_wp2
                go_roundg (n.sum.toNat + 2 - (k + 1))
                case measure => have := HKA.out; omega
                case rel => exact ⟨k + 1, _, (by first | rfl | (simp; done)), ⟨by have := HKA.out; omega, by have := HKA.out; omega⟩, RN⟩
        · have RV5 := RV.out
          rw [show k = n.sum.toNat + 1 by have := HKA.out.1; omega] at RV5
          have TN := Aside0.mk (impl_Case_bestLate.RowI.done RV5 HD.out T1.out T2.out HB.out.size T3.out T4.out)
          have BC9 := Aside0.mk (impl_Case_bestLate.RowI.box RV5 BC.out NE1.out)
          have BR9 := Aside0.mk (impl_Case_bestLate.RowI.box RV5 BR.out NE2.out)
          have BT9 := Aside0.mk (impl_Case_bestLate.RowI.box RV5 BT.out NE3.out)
          have HB9 := Aside0.mk RV5.2.2.2
          clear RV5 RV HKA
          go_wp2
          go_roundg i
          case measure => have := HZ.out; omega
          case rel => exact ⟨(i : Int) - 1, (by first | rfl | (simp; done)), ⟨by omega, by have := HZ.out; omega, by omega⟩, ⟨by rw [show ((n.length : Int) - ((i : Int) - 1)).toNat = d + 1 by have := HD.out; omega]; exact TN.out⟩, BC9, BR9, BT9, HB9⟩
    · have TB' := TB.out
      rw [show ((n.length : Int) - z).toNat = n.length + 1 by have := HZ.out; omega] at TB'
      obtain ⟨cs', t1, t2, t3, _⟩ := TB'
      have T1 := Aside0.mk t1
      have T2 := Aside0.mk t2
      have T3 := Aside0.mk t3
      have hz' : decide (z ≥ 0) = false := decide_eq_false hz
      have hz'' : decide (0 ≤ z) = false := decide_eq_false hz
      obtain ⟨wp, rfl⟩ : ∃ wp : World, wp = wr := ⟨_, rfl⟩
      clear t1 t2 t3 TB hz
      go_wp2_with fail
      have OW := Aside0.mk (show Kd.R (Kd.int .i64) 3 (wp.alloc (.cells #[] 3)) wp.heap.size (fun _ => True) (.slice (some ⟨wp.heap.size, 0, none⟩) 0 0) ([] : List Int) from Kd.R_of_own (h1 := fun _ => rfl) (World.ownsRow_lit (base := wp.heap.size) (e := 3) (size := 1) wp #[] 0 (Nat.le_refl _) (by unfold maxLen; omega) (by simp)) (fun _ _ => trivial))
      have BW := Aside0.mk (below_alloc (Below.refl wp.heap.size wp) (.cells #[] 3))
      generalize wp.alloc (.cells #[] 3) = w7 at OW BW ⊢
      go_loopg [14, 15, 74] (n.length + 1) (fun kq v14 v15 v74 W => ∃ (t o : Nat) (v : Value) (P : List Int), v74 = .int .i64 (t : Int) ∧ v15 = .int .i64 (o : Int) ∧ v14 = v ∧ Aside0 (t ≤ n.length ∧ (o : Int) ≤ n.sum ∧ kq + t = n.length + 1 ∧ P.length = t ∧ P ++ impl_Case_bestLate.plan n s u hl r (n.length - t) o = impl_Case_bestLate.plan n s u hl r n.length 0) ∧ Aside0 (Kd.R (Kd.int .i64) 3 W wp.heap.size (fun _ => True) v P) ∧ Aside0 (Below wp.heap.size wp W))
      case atStart => exact ⟨0, 0, _, [], rfl, rfl, rfl, ⟨by omega, by omega, by omega, rfl, rfl⟩, OW, BW⟩
      case round =>
        clear OW BW
        obtain ⟨t, o, v, P, rfl, rfl, hv14, HF, RP, BP⟩ := hrel
        obtain ⟨Av, cv, hv⟩ := Kd.R_slice RP.out
        have hv2 := hv14.trans hv
        rw [hv] at RP
        clear hv hv14
        subst hv2
        have g1 := HF.out.1
        have g2 := HF.out.2.1
        have o0 : (0 : Int) ≤ (o : Int) := by omega
        have t8 : (t : Int) ≤ 8 := by omega
        by_cases ht : t < n.length
        · obtain ⟨d, hd⟩ : ∃ d, t + (d + 1) = n.length := ⟨n.length - (t + 1), by omega⟩
          have HD := Aside0.mk hd
          have ht' : (t : Int) < (n.length : Int) := by omega
          obtain ⟨A1, c1, hc1, hR1⟩ := T3.out t (by omega) (by omega)
          obtain ⟨A2, c2, hc2, hR2⟩ := T3.out (t + 1) (by omega) (by omega)
          rw [show n.length - t = d + 1 by omega] at hR1
          rw [show n.length - (t + 1) = d by omega] at hR2
          have AM := Aside0.mk (impl_Case_bestLate.amt_is CK.out d o (by omega) g2)
          have HR1 := Aside0.mk hR1
          have HR2 := Aside0.mk hR2
          have HC1 := Aside0.mk hc1
          have HC2 := Aside0.mk hc2
          clear hd hR1 hR2 hc1 hc2
          go_wp2_with fail
          go_loopg [17] (impl_Case_bestLate.amt n s u hl r d o + 1) (fun kq v17 W => ∃ a : Nat, v17 = .int .i64 (a : Int) ∧ Aside0 (kq + a = impl_Case_bestLate.amt n s u hl r d o + 1 ∧ a ≤ impl_Case_bestLate.amt n s u hl r d o) ∧ Aside0 (Kd.R (Kd.int .i64) 3 W wp.heap.size (fun _ => True) (.slice Av P.length cv) P) ∧ Aside0 (Below wp.heap.size wp W))
          case atStart => exact ⟨0, rfl, ⟨by omega, by omega⟩, RP, BP⟩
          case round =>
            clear RP BP
            obtain ⟨a, rfl, HA, RP, BP⟩ := hrel
            have R5 := BP.out
            have hbt := (blk_cell (blk_below BT.out R5) 0).trans (show _ = some (.slice (some ⟨gt, 0, none⟩) (n.length + 1) (n.length + 1) : Value) from rfl)
            have hct := (blk_cell (blk_below T1.out R5) t).trans HC1.out
            have hct2 := (blk_cell (blk_below T1.out R5) (t + 1)).trans HC2.out
            have rl := impl_Case_bestLate.row_len n s u hl r (d + 1)
            obtain ⟨ad, rfl, hnum⟩ := Kd.at_int (Kd.R_reads' (Kd.R_below HR1.out R5)).2.2 (o : Int) o0 (by omega)
            rw [impl_Case_bestLate.row_at n s u hl r (d + 1) o (by omega)] at hnum
            have KC := Aside0.mk (impl_Case_bestLate.with_ n s u hl r CK.out An As Au Ah Ar cn cs cu ch cr bc br bt gt d t o a A2 c2 wr.drew HD.out (by have := HA.out; have := AM.out.2.1; omega) (Kd.C_below R0.out (below_drew1 (below_step HB.out R5))) C0.out (Kd.C_below R1.out (below_drew1 (below_step HB.out R5))) C1.out (Kd.C_below R2.out (below_drew1 (below_step HB.out R5))) C2.out (Kd.C_below R3.out (below_drew1 (below_step HB.out R5))) C3.out (Kd.C_below R4.out (below_drew1 (below_step HB.out R5))) C4.out
              (blk_drew (blk_below BC.out R5)) (blk_drew (blk_below BR.out R5)) (blk_drew (blk_below BT.out R5)) hct2 (Kd.C_drew (Kd.R_reads' (Kd.R_below HR2.out R5)).2.2))
            obtain ⟨x, hx⟩ : ∃ x, x = impl_Case_bestLate.wth n s u hl r d o a := ⟨_, rfl⟩
            obtain ⟨y, hy⟩ : ∃ y, y = impl_Case_bestLate.V n s u hl r (d + 1) o := ⟨_, rfl⟩
            rw [← hx] at KC
            rw [← hy] at hnum
            obtain ⟨M, hM⟩ : ∃ M, M = n.sum.toNat + 1 := ⟨_, rfl⟩
            rw [← hM] at hct
            have oM : (o : Int) < (M : Int) := by omega
            have q0 : (0 : Int) ≤ (t : Int) := by omega
            have q1 : (t : Int) < (n.length : Int) + 1 := by omega
            have hnum' : wr.cell? (ad.add o) = some (.int .i64 y) := hnum
            have HX := Aside0.mk hx
            have HY := Aside0.mk hy
            have HM := Aside0.mk hM
            have a160 : (a : Int) ≤ 160 := by have := HA.out; have := AM.out.2.1; omega
            have a0 : (0 : Int) ≤ (a : Int) := by omega
            have oa : (o : Int) + (a : Int) ≤ n.sum := by have := HA.out; have := AM.out.2.1; omega
            clear hct2 rl hnum hx hy hM R5
            by_cases hxy : x = y
            · have e1 : (x != y) = false := by rw [hxy]; simp
              have e2 : (x == y) = true := by rw [hxy]; simp
              have e3 : decide (x = y) = true := decide_eq_true hxy
              have HE := Aside0.mk hxy
              clear hxy
              go_wp2_with fail
              go_region_held3 (fun w' => w'.cell? ⟨bt, 0, none⟩ = some (.slice (some ⟨gt, 0, none⟩) (n.length + 1) (n.length + 1)) ∧ w'.cell? ⟨gt, t, none⟩ = some (.slice (some ad) M c1) ∧ w'.cell? (ad.add o) = some (.int .i64 y))
                (first | go_keep | (go_split_ands; refine ⟨?_, ?_, ?_⟩ <;> exact pw_cell_below hq (by assumption)))
                ((go_at_call 73; (with_reducible refine KC.out.mono ?_); rintro e w8 ⟨rfl, hq⟩))
              have RP8 := Aside0.mk (Kd.R_below (Kd.R_drew RP.out) hq)
              have BP8 := Aside0.mk (below_step (below_drew1 BP.out) hq)
              have HOWN := Aside0.mk (Kd.own_of_R (h1 := fun _ => rfl) RP8.out)
              have hb8 : (P.length + 1) * 8 ≤ 140737488355328 := by have := HF.out.2.2.2.1; omega
              have hm8 : P.length + 1 ≤ maxLen := by unfold maxLen; omega
              have hs8 : wp.heap.size ≤ w8.heap.size := BP8.out.size
              obtain ⟨i0, hi0, hz0, hz1, hz2⟩ := info_parts info3
              clear hbt hct hnum' hq
              go_wp2_with (at_builtin; refine wpList_append_lies _ rfl _ _ _ rfl wp.heap.size 3 i0 _ 1 8 Try.underlying23 hi0 hz0 hz1 hz2 rfl (by omega) (.slice Av P.length cv) P.length _ rfl (HOWN.out.alloc _) ⟨w8.heap.size, 0, none⟩ 1 1 [.int .i64 (a : Int)] rfl rfl (World.news_of_block (cs := #[.int .i64 (a : Int)]) (t := 3) (fr := (0, 0)) (heap_alloc_new w8 _)) (by simp [Value.oneCell']) (by omega) hm8 hb8 (by simp; omega) (w8.heap.size + 1) (by simp) ?_; intro gg cap w9 hown1 hgrow hat hlt)
              have hP := HF.out
              have hA2 := AM.out
              have ea : a = impl_Case_bestLate.amt n s u hl r d o := by
                rcases Nat.lt_or_ge a (impl_Case_bestLate.amt n s u hl r d o) with z | z
                · exact absurd (HX.out.symm.trans (HE.out.trans HY.out)) (hA2.2.2 a z)
                · have := HA.out.2; omega
              have hR9 : Kd.R (Kd.int .i64) 3 w9 wp.heap.size (fun _ => True) (.slice (some ⟨gg, 0, none⟩) (P.length + 1) cap) (P ++ [(a : Int)]) := Kd.R_of_own (h1 := fun _ => rfl) (by simpa [encs] using hown1) (fun _ _ => trivial)
              have hB9 : Below wp.heap.size wp w9 := pw_below_grown (BP8.out.alloc hs8 _) _ (by simp; omega) hgrow (fun q hq => Kd.R_base RP8.out q hq)
              go_roundg (n.length + 1 - (t + 1))
              case measure => omega
              case rel => exact ⟨t + 1, o + a, _, P ++ [(a : Int)], (by first | rfl | (simp; done)), (by first | rfl | (simp; done)), rfl, ⟨by have := HD.out; omega, by omega, by omega, by simp; omega, by rw [← hP.2.2.2.2, show n.length - t = d + 1 by have := HD.out; omega, show n.length - (t + 1) = d by have := HD.out; omega, List.append_assoc]; simp only [impl_Case_bestLate.plan, ← ea]; rfl⟩, ⟨hR9⟩, ⟨hB9⟩⟩
            · have e1 : (x != y) = true := by simpa using hxy
              have e2 : (x == y) = false := by simpa using hxy
              have e3 : decide (x = y) = false := decide_eq_false hxy
              have HE := Aside0.mk hxy
              clear hxy
              go_wp2_with fail
              go_region_held3 (fun w' => w'.cell? ⟨bt, 0, none⟩ = some (.slice (some ⟨gt, 0, none⟩) (n.length + 1) (n.length + 1)) ∧ w'.cell? ⟨gt, t, none⟩ = some (.slice (some ad) M c1) ∧ w'.cell? (ad.add o) = some (.int .i64 y))
                (first | go_keep | (go_split_ands; refine ⟨?_, ?_, ?_⟩ <;> exact pw_cell_below hq (by assumption)))
                ((go_at_call 73; (with_reducible refine KC.out.mono ?_); rintro e w8 ⟨rfl, hq⟩))
              have RP8 := Aside0.mk (Kd.R_below (Kd.R_drew RP.out) hq)
              have BP8 := Aside0.mk (below_step (below_drew1 BP.out) hq)
              clear hbt hct hnum' hq
              go_wp2
              have ea : a ≠ impl_Case_bestLate.amt n s u hl r d o := fun z => HE.out (HX.out.trans ((z ▸ AM.out.1).trans HY.out.symm))
              go_roundg (impl_Case_bestLate.amt n s u hl r d o + 1 - (a + 1))
              case measure => have := HA.out; omega
              case rel => exact ⟨a + 1, (by first | rfl | (simp; done)), ⟨by have := HA.out; omega, by have := HA.out; omega⟩, RP8, BP8⟩
        · have hP := HF.out
          have hbt := (blk_cell (blk_below BT.out BP.out) 0).trans (show _ = some (.slice (some ⟨gt, 0, none⟩) (n.length + 1) (n.length + 1) : Value) from rfl)
          obtain ⟨A1, c1, hc1, hR1⟩ := T3.out 0 (by omega) (by omega)
          rw [show n.length - 0 = n.length by omega] at hR1
          have hct := (blk_cell (blk_below T1.out BP.out) 0).trans hc1
          have rl := impl_Case_bestLate.row_len n s u hl r n.length
          obtain ⟨ad, rfl, hnum⟩ := Kd.at_int (Kd.R_reads' (Kd.R_below hR1 BP.out)).2.2 ((0 : Nat) : Int) (by omega) (by omega)
          rw [impl_Case_bestLate.row_at n s u hl r n.length 0 (by omega)] at hnum
          have hnum' : wr.cell? ad = some (.int .i64 (impl_Case_bestLate.V n s u hl r n.length 0)) := (show ad.add 0 = ad by simp [Addr.add]) ▸ hnum
          obtain ⟨M, hM⟩ : ∃ M, M = n.sum.toNat + 1 := ⟨_, rfl⟩
          rw [← hM] at hct
          have oM : (0 : Int) < (M : Int) := by omega
          have oM2 : 0 < M := by omega
          have q1 : (0 : Int) < (n.length : Int) + 1 := by omega
          have q2 : 0 < n.length + 1 := by omega
          have et : P = impl_Case_bestLate.plan n s u hl r n.length 0 := by
            rw [← hP.2.2.2.2, show n.length - t = 0 by omega]
            simp [impl_Case_bestLate.plan]
          have ET := Aside0.mk et
          have ht' : decide ((t : Int) < (n.length : Int)) = false := decide_eq_false (by omega)
          have ht2 : decide (t < n.length) = false := decide_eq_false ht
          clear hc1 hnum rl hM hP et ht
          have HR1 := Aside0.mk hR1
          clear hR1
          go_wp2_with fail
          go_region_held3 (fun w' => w'.cell? ⟨bt, 0, none⟩ = some (.slice (some ⟨gt, 0, none⟩) (n.length + 1) (n.length + 1)) ∧ w'.cell? ⟨gt, 0, none⟩ = some (.slice (some ad) M c1) ∧ w'.cell? ad = some (.int .i64 (impl_Case_bestLate.V n s u hl r n.length 0)))
            (go_keep) (fail)
          go_wp2
          go_ret2
          exact ⟨_, rfl, Kd.R_lower (Kd.R_drew (by rw [← ET.out]; exact RP.out)) HB.out.size, below_drew1 (below_weaken HB.out HB.out.size BP.out)⟩
theorem impl_Case_bestLate.calls (A0_0 : Option Addr) (c0_0 : Nat) (l0_0 : List Int) (A0_1 : Option Addr) (c0_1 : Nat) (l0_1 : List Int) (A0_2 : Option Addr) (c0_2 : Nat) (l0_2 : List Int) (A0_3 : Option Addr) (c0_3 : Nat) (l0_3 : List Int) (A1 : Option Addr) (c1 : Nat) (l1 : List Int) (r1 : List Int) (r2 : Int) (w : World) (hr0_0 : Kd.C (Kd.int .i64) w A0_0 l0_0.length l0_0) (hc0_0 : l0_0.length ≤ c0_0) (hr0_1 : Kd.C (Kd.int .i64) w A0_1 l0_1.length l0_1) (hc0_1 : l0_1.length ≤ c0_1) (hr0_2 : Kd.C (Kd.int .i64) w A0_2 l0_2.length l0_2) (hc0_2 : l0_2.length ≤ c0_2) (hr0_3 : Kd.C (Kd.int .i64) w A0_3 l0_3.length l0_3) (hc0_3 : l0_3.length ≤ c0_3) (hr1 : Kd.C (Kd.int .i64) w A1 l1.length l1) (hc1 : l1.length ≤ c1) (h : impl_Case_bestLate.f l0_0 l0_1 l0_2 l0_3 l1 = some (r1, r2)) :
    Calls Try.prog 58 #[.agg #[.slice A0_0 l0_0.length c0_0, .slice A0_1 l0_1.length c0_1, .slice A0_2 l0_2.length c0_2, .slice A0_3 l0_3.length c0_3], .slice A1 l1.length c1] w fun e w' => ∃ v0_ : Value, e = .returned (.tuple #[v0_, .int .i64 r2]) ∧ Kd.R (Kd.int .i64) 3 w' w.heap.size (fun _ => True) v0_ r1 ∧ Below w.heap.size w w' := by
  unfold impl_Case_bestLate.f at h
  by_cases c : impl_Case_bestLate.Ok l0_0 l0_1 l0_2 l0_3 l1
  · rw [if_pos c] at h
    simp only [Option.some.injEq, Prod.mk.injEq] at h
    obtain ⟨rfl, rfl⟩ := h
    exact impl_Case_bestLate.walk l0_0 l0_1 l0_2 l0_3 l1 c A0_0 A0_1 A0_2 A0_3 A1 c0_0 c0_1 c0_2 c0_3 c1 w hr0_0 hc0_0 hr0_1 hc0_1 hr0_2 hc0_2 hr0_3 hc0_3 hr1 hc1
  · rw [if_neg c] at h; cases h


end Go.Proofs.Ytnojmhcmngejnaa.PFnExactLeastLate
