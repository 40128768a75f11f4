/- The pure statement of the law FnExactWeightUpTo: what the program's function answers is what the reference answers, for all arguments of the kinds of its parameters. -/
import Derived.Test.YtdphfhjlbjkdgaaPFnExactWeightUpTox2
import Derived.Test.YtdphfhjlbjkdgaaBase
namespace Go.Proofs.Ytdphfhjlbjkdgaa.Pure
set_option linter.unusedSimpArgs false
open Go.RowKit Go.Proofs.Ytdphfhjlbjkdgaa.PFnExactWeightUpTo Go.Proofs.YtdphfhjlbjkdgaaW.PrintWords Go.Proofs.YtdphfhjlbjkdgaaW.PrintLast Go.Proofs.Ytdphfhjlbjkdgaa.Base

/-! toIntS -/
theorem toIntS_l0 (l acc : List Int) (i : Nat) (hi : i ≤ l.length) (hl : l.length ≤ 2000000) (ha : acc.length = l.length) (hg : ∀ j, j < i → acc[j]? = l[j]?) :
    Ev (fun k => laws_toIntS.l0 k l acc (i : Int)) l := by
  refine ev_succ ?_
  by_cases h : i < l.length
  · simp (disch := omega) only [laws_toIntS.l0, if_pos, w64, Int.toNat_natCast]
    refine toIntS_l0 l (acc.set i (rd l i)) (i + 1) (by omega) hl (by simpa using ha) (fun j hj => ?_)
    rw [set_get _ _ _ _ (by omega)]
    by_cases e : j = i
    · subst e; rw [if_pos rfl, get_rd l j h]
    · rw [if_neg e]; exact hg j (by omega)
  · simp (disch := omega) only [laws_toIntS.l0, if_neg]
    exact ev_now (eq_of_get ha fun j hj => hg j (by omega))
 termination_by l.length - i
theorem toIntS_ev (l : List Int) (hl : l.length ≤ 2000000) : Ev (fun k => laws_toIntS.f k l) l := by
  simp (disch := omega) only [laws_toIntS.f, if_pos, Int.toNat_natCast]
  exact toIntS_l0 l _ 0 (by omega) hl (by simp) (fun j hj => by omega)

/-! eqIntS -/
theorem eqIntS_l0 (l : List Int) (i : Nat) (hi : i ≤ l.length) (hl : l.length ≤ 2000000) : Ev (fun k => laws_eqIntS.l0 k l l (i : Int)) true := by
  refine ev_succ ?_
  by_cases h : i < l.length
  · simp (disch := omega) only [laws_eqIntS.l0, if_pos, w64]
    exact eqIntS_l0 l (i + 1) (by omega) hl
  · simp (disch := omega) only [laws_eqIntS.l0, if_neg]
    exact ev_now rfl
 termination_by l.length - i
theorem eqIntS_ev (l : List Int) (hl : l.length ≤ 2000000) : Ev (fun k => laws_eqIntS.f k l l) true := by
  simp (disch := omega) only [laws_eqIntS.f, if_pos]
  exact eqIntS_l0 l 0 (by omega) hl

/-! Dist -/
/-- A list of numbers that is a distribution. -/
def Dist (l : List Int) : Prop := (1 ≤ l.length ∧ l.length ≤ 16) ∧ (∀ x ∈ l, 0 ≤ x ∧ x ≤ 1000) ∧ 0 < l.sum
instance (l : List Int) : Decidable (Dist l) := by unfold Dist; infer_instance

/-! within -/
theorem within_eq (a b c : Int) : impl_within.f a b c = some (decide (b ≤ a ∧ a ≤ c)) := by
  unfold impl_within.f
  by_cases h : a ≥ b
  · rw [if_pos h]; congr 1; rw [decide_eq_decide]; omega
  · rw [if_neg h]; congr 1; symm; rw [decide_eq_false_iff_not]; omega

/-! allWithin -/
theorem allWithin_l0 (l : List Int) (lo hi : Int) (i : Nat) (h1 : i ≤ l.length) (hl : l.length ≤ 2000000) :
    Ev (fun k => impl_allWithin.l0 k lo hi l (l.length : Int) (i : Int)) (decide (∀ x ∈ l.drop i, lo ≤ x ∧ x ≤ hi)) := by
  refine ev_succ ?_
  by_cases h : i < l.length
  · simp (disch := omega) only [impl_allWithin.l0, if_pos, within_eq, Option.bind_some, w64]
    rw [drop_rd l i h]
    by_cases c : lo ≤ rd l i ∧ rd l i ≤ hi
    · refine ev_ifp (by simpa using c) ?_
      refine ev_to (allWithin_l0 l lo hi (i + 1) (by omega) hl) ?_
      rw [decide_eq_decide]; simp [c]
    · refine ev_ifn (by simpa using c) (ev_now ?_)
      symm; rw [decide_eq_false_iff_not]; simp [c]
  · simp (disch := omega) only [impl_allWithin.l0, if_neg]
    exact ev_now (by simp [List.drop_eq_nil_of_le (show l.length ≤ i by omega)])
 termination_by l.length - i
theorem allWithin_ev (l : List Int) (lo hi : Int) (hl : l.length ≤ 2000000) : Ev (fun k => impl_allWithin.f k l lo hi) (decide (∀ x ∈ l, lo ≤ x ∧ x ≤ hi)) := by
  have h := allWithin_l0 l lo hi 0 (by omega) hl
  simpa [impl_allWithin.f] using h

/-! total -/
theorem total_l0 (l : List Int) (i : Nat) (h1 : i ≤ l.length) (hl : l.length ≤ 2000) (hb : ∀ x ∈ l, 0 ≤ x ∧ x ≤ 1000000000) :
    Ev (fun k => impl_total.l0 k (l.take i).sum l (l.length : Int) (i : Int)) l.sum := by
  refine ev_succ ?_
  by_cases h : i < l.length
  · have a := sum_take_bound l i 1000000000 hb 2000 hl (by omega)
    have b := sum_take_bound l (i + 1) 1000000000 hb 2000 hl (by omega)
    rw [sum_take_succ l i h] at b
    simp (disch := omega) only [impl_total.l0, if_pos, w64]
    rw [← sum_take_succ l i h]
    exact total_l0 l (i + 1) (by omega) hl hb
  · simp (disch := omega) only [impl_total.l0, if_neg]
    exact ev_now (by rw [List.take_of_length_le (by omega)])
 termination_by l.length - i
theorem total_ev (l : List Int) (hl : l.length ≤ 2000) (hb : ∀ x ∈ l, 0 ≤ x ∧ x ≤ 1000000000) : Ev (fun k => impl_total.f k l) l.sum := by
  have h := total_l0 l 0 (by omega) hl hb
  simpa [impl_total.f] using h

/-! IsDistribution -/
theorem IsDistribution_ev (l : List Int) (hl : l.length ≤ 2000000) : Ev (fun k => impl_IsDistribution.f k l) (decide (Dist l)) := by
  unfold impl_IsDistribution.f
  simp only [within_eq, Option.bind_some]
  by_cases h1 : (1 : Int) ≤ l.length ∧ (l.length : Int) ≤ 16
  · refine ev_ifp (by simpa using h1) (ev_bind (allWithin_ev l 0 1000 hl) ?_)
    by_cases h2 : ∀ x ∈ l, 0 ≤ x ∧ x ≤ 1000
    · refine ev_ifp (by simpa using h2) (ev_bind (total_ev l (by omega) (fun x hx => by have := h2 x hx; omega)) (ev_now ?_))
      rw [decide_eq_decide]; unfold Dist
      exact ⟨fun h => ⟨by omega, h2, by omega⟩, fun h => by omega⟩
    · refine ev_ifn (by simpa using h2) (ev_now ?_)
      symm; rw [decide_eq_false_iff_not]; unfold Dist
      exact fun h => h2 h.2.1
  · refine ev_ifn (by simpa using h1) (ev_now ?_)
    symm; rw [decide_eq_false_iff_not]; unfold Dist
    exact fun h => h1 (by omega)

/-! isOrder -/
theorem isOrder_eq (a : Int) : impl_isOrder.f a = some (decide (0 ≤ a ∧ a ≤ 15)) := by
  unfold impl_isOrder.f; rw [within_eq]; rfl

/-! cum -/
/-- The sum of the weights of all demands up to q. -/
def cum (l : List Int) (q : Int) : Int := (l.take (q + 1).toNat).sum
theorem dist_len {l : List Int} (h : Dist l) : 1 ≤ l.length ∧ l.length ≤ 16 := h.1
theorem dist_small {l : List Int} (h : Dist l) : ∀ x ∈ l, 0 ≤ x ∧ x ≤ 1000000000 := fun x hx => by have := h.2.1 x hx; omega
theorem dist_cum {l : List Int} (h : Dist l) (q : Int) : 0 ≤ cum l q ∧ cum l q ≤ 16000 := by
  have := sum_take_bound l (q + 1).toNat 1000 h.2.1 16 h.1.2 (by omega)
  unfold cum; omega
theorem dist_sum {l : List Int} (h : Dist l) : 0 < l.sum ∧ l.sum ≤ 16000 := by
  have := sum_take_bound l l.length 1000 h.2.1 16 h.1.2 (by omega)
  rw [List.take_of_length_le (Nat.le_refl _)] at this
  have := h.2.2
  omega
theorem cum_all {l : List Int} (q : Int) (h : (l.length : Int) ≤ q + 1) : cum l q = l.sum := by
  unfold cum; rw [List.take_of_length_le (by omega)]

/-! upTo -/
theorem upTo_ev (l : List Int) (q : Int) (h : Dist l) (h0 : 0 ≤ q) (h1 : q ≤ 1000) : Ev (fun k => impl_upTo.f k l q) (cum l q) := by
  have hl := dist_len h
  have hm : mn (wrap64 (q + 1)) (l.length : Int) = if q + 1 ≤ l.length then q + 1 else (l.length : Int) := by
    rw [w64 (by omega) (by omega)]; unfold mn; split <;> split <;> omega
  unfold impl_upTo.f
  rw [hm]
  by_cases hq : q + 1 ≤ l.length
  · simp only [if_pos hq]
    refine ev_ifp (by omega) (ev_bind (total_ev _ (by rw [List.length_take]; omega) (fun x hx => dist_small h x (List.mem_of_mem_take hx))) (ev_now rfl))
  · simp only [if_neg hq]
    refine ev_ifp (by omega) (ev_ifp (by omega) (ev_bind (total_ev _ (by rw [List.length_take]; omega) (fun x hx => dist_small h x (List.mem_of_mem_take hx))) (ev_now ?_)))
    rw [cum_all q (by omega), List.take_of_length_le (by omega)]

/-! WeightUpTo -/
def WeightUpToR (l : List Int) (q : Int) : Int × Bool := if Dist l ∧ 0 ≤ q ∧ q ≤ 15 then (cum l q, true) else (0, false)
theorem WeightUpTo_ev (l : List Int) (q : Int) (hl : l.length ≤ 2000000) : Ev (fun k => impl_WeightUpTo.f k l q) (WeightUpToR l q) := by
  unfold impl_WeightUpTo.f
  refine ev_bind (IsDistribution_ev l hl) ?_
  simp only [isOrder_eq, Option.bind_some]
  by_cases h : Dist l
  · refine ev_ifp (by simpa using h) ?_
    by_cases hq : 0 ≤ q ∧ q ≤ 15
    · exact ev_ifp (by simpa using hq) (ev_bind (upTo_ev l q h hq.1 (by omega)) (ev_now (by unfold WeightUpToR; rw [if_pos ⟨h, hq⟩])))
    · exact ev_ifn (by simpa using hq) (ev_now (by unfold WeightUpToR; rw [if_neg (fun z => hq z.2)]))
  · exact ev_ifn (by simpa using h) (ev_now (by unfold WeightUpToR; rw [if_neg (fun z => h z.1)]))

/-! l1In -/
theorem l1In_eq (a b c : Int) : spec_l1In.f a b c = some (decide (b ≤ a ∧ a ≤ c)) := by
  unfold spec_l1In.f
  by_cases h : a ≥ b
  · rw [if_pos h]; congr 1; rw [decide_eq_decide]; omega
  · rw [if_neg h]; congr 1; symm; rw [decide_eq_false_iff_not]; omega

/-! l2Row -/
theorem l2Row_l0 (l : List Int) (n hi : Int) (i : Nat) (h1 : i ≤ l.length) (hl : l.length ≤ 2000000) :
    Ev (fun k => spec_l2Row.l0 k l n hi (i : Int)) (decide ((∀ x ∈ l.drop i, 0 ≤ x ∧ x ≤ hi) ∧ (l.length : Int) = n)) := by
  refine ev_succ ?_
  by_cases h : i < l.length
  · simp (disch := omega) only [spec_l2Row.l0, if_pos, l1In_eq, Option.bind_some, w64]
    rw [drop_rd l i h]
    by_cases c : 0 ≤ rd l i ∧ rd l i ≤ hi
    · refine ev_ifp (by simpa using c) ?_
      refine ev_to (l2Row_l0 l n hi (i + 1) (by omega) hl) ?_
      rw [decide_eq_decide]; simp [c]
    · refine ev_ifn (by simpa using c) (ev_now ?_)
      symm; rw [decide_eq_false_iff_not]; simp [c]
  · simp (disch := omega) only [spec_l2Row.l0, if_neg]
    exact ev_now (by
      rw [List.drop_eq_nil_of_le (show l.length ≤ i by omega)]
      rw [Bool.eq_iff_iff]; simp)
 termination_by l.length - i
theorem l2Row_ev (l : List Int) (n hi : Int) (hl : l.length ≤ 2000000) : Ev (fun k => spec_l2Row.f k l n hi) (decide ((∀ x ∈ l, 0 ≤ x ∧ x ≤ hi) ∧ (l.length : Int) = n)) := by
  have h := l2Row_l0 l n hi 0 (by omega) hl
  simpa [spec_l2Row.f] using h

/-! l2Sum -/
theorem l2Sum_l0 (l : List Int) (i : Nat) (h1 : i ≤ l.length) (hl : l.length ≤ 2000) (hb : ∀ x ∈ l, 0 ≤ x ∧ x ≤ 1000000000) :
    Ev (fun k => spec_l2Sum.l0 k l (l.take i).sum (i : Int)) l.sum := by
  refine ev_succ ?_
  by_cases h : i < l.length
  · have a := sum_take_bound l i 1000000000 hb 2000 hl (by omega)
    have b := sum_take_bound l (i + 1) 1000000000 hb 2000 hl (by omega)
    rw [sum_take_succ l i h] at b
    simp (disch := omega) only [spec_l2Sum.l0, if_pos, w64]
    rw [← sum_take_succ l i h]
    exact l2Sum_l0 l (i + 1) (by omega) hl hb
  · simp (disch := omega) only [spec_l2Sum.l0, if_neg]
    exact ev_now (by rw [List.take_of_length_le (by omega)])
 termination_by l.length - i
theorem l2Sum_ev (l : List Int) (hl : l.length ≤ 2000) (hb : ∀ x ∈ l, 0 ≤ x ∧ x ≤ 1000000000) : Ev (fun k => spec_l2Sum.f k l) l.sum := by
  have h := l2Sum_l0 l 0 (by omega) hl hb
  simpa [spec_l2Sum.f] using h
/-! l5Total -/
theorem l5Total_ev (l : List Int) (hl : l.length ≤ 2000) (hb : ∀ x ∈ l, 0 ≤ x ∧ x ≤ 1000000000) : Ev (fun k => spec_l5Total.f k l) l.sum := by
  unfold spec_l5Total.f
  exact ev_bind (l2Sum_ev l hl hb) (ev_now rfl)

/-! l5Good -/
theorem l5Good_ev (l : List Int) (hl : l.length ≤ 2000000) : Ev (fun k => spec_l5Good.f k l) (decide (Dist l)) := by
  unfold spec_l5Good.f
  simp only [l1In_eq, Option.bind_some]
  by_cases h1 : (1 : Int) ≤ l.length ∧ (l.length : Int) ≤ 16
  · refine ev_ifp (by simpa using h1) (ev_bind (l2Row_ev l _ 1000 hl) ?_)
    by_cases h2 : ∀ x ∈ l, 0 ≤ x ∧ x ≤ 1000
    · refine ev_ifp (by simpa using h2) (ev_bind (l5Total_ev l (by omega) (fun x hx => by have := h2 x hx; omega)) (ev_now ?_))
      rw [decide_eq_decide]; unfold Dist
      exact ⟨fun h => ⟨by omega, h2, by omega⟩, fun h => by omega⟩
    · refine ev_ifn (by simpa using h2) (ev_now ?_)
      symm; rw [decide_eq_false_iff_not]; unfold Dist
      exact fun h => h2 h.2.1
  · refine ev_ifn (by simpa using h1) (ev_now ?_)
    symm; rw [decide_eq_false_iff_not]; unfold Dist
    exact fun h => h1 (by omega)

/-! l5Order -/
theorem l5Order_ev (l : List Int) (q : Int) (hl : l.length ≤ 2000000) : Ev (fun k => spec_l5Order.f k l q) (decide (Dist l ∧ 0 ≤ q ∧ q ≤ 15)) := by
  unfold spec_l5Order.f
  refine ev_bind (l5Good_ev l hl) ?_
  simp only [l1In_eq, Option.bind_some]
  by_cases h : Dist l
  · exact ev_ifp (by simpa using h) (ev_now (by simp [h]))
  · exact ev_ifn (by simpa using h) (ev_now (by simp [h]))

/-! l5UpTo -/
theorem l5UpTo_l0 (l : List Int) (q : Int) (h : Dist l) (h0 : 0 ≤ q) (h1 : q ≤ 1000) (i : Nat) (hi : i ≤ l.length) (hq : (i : Int) ≤ q + 1) : Ev (fun k => spec_l5UpTo.l0 k l q (l.take i).sum (i : Int)) (cum l q) := by
  have hl := dist_len h
  refine ev_succ ?_
  by_cases hlt : i < l.length
  · by_cases hqi : (i : Int) ≤ q
    · have a := sum_take_bound l i 1000000000 (dist_small h) 16 (by omega) (by omega)
      have b := sum_take_bound l (i + 1) 1000000000 (dist_small h) 16 (by omega) (by omega)
      rw [sum_take_succ l i hlt] at b
      simp (disch := omega) only [spec_l5UpTo.l0, if_pos, w64]
      rw [← sum_take_succ l i hlt]
      exact l5UpTo_l0 l q h h0 h1 (i + 1) (by omega) (by omega)
    · simp only [spec_l5UpTo.l0]
      refine ev_ifp (by omega) (ev_ifn (by omega) (ev_now ?_))
      unfold cum; rw [show (q + 1).toNat = i by omega]
  · simp (disch := omega) only [spec_l5UpTo.l0, if_neg]
    exact ev_now (by rw [cum_all q (by omega), List.take_of_length_le (by omega)])
 termination_by l.length - i
theorem l5UpTo_ev (l : List Int) (q : Int) (h : Dist l) (h0 : 0 ≤ q) (h1 : q ≤ 1000) : Ev (fun k => spec_l5UpTo.f k l q) (cum l q) := by
  have := l5UpTo_l0 l q h h0 h1 0 (by omega) (by omega)
  simpa [spec_l5UpTo.f] using this

/-! spec_WeightUpTo -/
theorem spec_WeightUpTo_ev (l : List Int) (q : Int) (hl : l.length ≤ 2000000) : Ev (fun k => spec_WeightUpTo.f k l q) (WeightUpToR l q) := by
  unfold spec_WeightUpTo.f
  refine ev_bind (l5Order_ev l q hl) ?_
  by_cases h : Dist l ∧ 0 ≤ q ∧ q ≤ 15
  · exact ev_ifp (by simpa using h) (ev_bind (l5UpTo_ev l q h.1 h.2.1 (by omega)) (ev_now (by unfold WeightUpToR; rw [if_pos h])))
  · exact ev_ifn (by simpa using h) (ev_now (by unfold WeightUpToR; rw [if_neg h]))

/-! LAW FnExactWeightUpTo -/
theorem FnExactWeightUpTo : laws_FnExactWeightUpTo.Pure := by
  intro l0 a1 _ _ _ _
  refine Ev.rounds ?_
  unfold laws_FnExactWeightUpTo.f
  by_cases h0 : (l0.length : Int) > 1048576
  · exact ev_ifp h0 (ev_now rfl)
  refine ev_ifn h0 ?_
  have hl0 : l0.length ≤ 2000000 := by omega
  have hs := spec_WeightUpTo_ev l0 a1 hl0
  have hi := WeightUpTo_ev l0 a1 hl0
  repeat (first
    | exact ev_now rfl
    | refine ev_bind hs ?_
    | refine ev_bind hi ?_
    | (refine ev_bind (toIntS_ev _ ?_) ?_; first | assumption | omega)
    | (refine ev_bind (eqIntS_ev _ ?_) ?_; first | assumption | omega)
    | (refine ev_ifp ?_ ?_; first | rfl | omega | focus (simp; done))
    | (refine ev_ifn ?_ ?_; first | omega | focus (simp; done))
    | (refine ev_succ ?_; simp only [laws_FnExactWeightUpTo.j0]))


end Go.Proofs.Ytdphfhjlbjkdgaa.Pure
