/- The pure statement of the law FnExactIsWider: what the program's function answers is what the reference answers, for all arguments of the kinds of its parameters. -/
import Derived.Test.YtdphfhjlbjkdgaaQFnExactIsWiderx3
import Derived.Test.YtdphfhjlbjkdgaaBase
namespace Go.Proofs.Ytdphfhjlbjkdgaa.Pure
set_option linter.unusedSimpArgs false
open Go.RowKit Go.Proofs.Ytdphfhjlbjkdgaa.PFnExactIsWider Go.Proofs.YtdphfhjlbjkdgaaW.PrintWords Go.Proofs.YtdphfhjlbjkdgaaW.PrintLast Go.Proofs.Ytdphfhjlbjkdgaa.Base

/-! toIntS -/
theorem toIntS_l0 (l acc : List Int) (i : Nat) (hi : i ≤ l.length) (hl : l.length ≤ 2000000) (ha : acc.length = l.length) (hg : ∀ j, j < i → acc[j]? = l[j]?) :
    Ev (fun k => laws_toIntS.l0 k l acc (i : Int)) l := by
  refine ev_succ ?_
  by_cases h : i < l.length
  · simp (disch := omega) only [laws_toIntS.l0, if_pos, w64, Int.toNat_natCast]
    refine toIntS_l0 l (acc.set i (rd l i)) (i + 1) (by omega) hl (by simpa using ha) (fun j hj => ?_)
    rw [set_get _ _ _ _ (by omega)]
    by_cases e : j = i
    · subst e; rw [if_pos rfl, get_rd l j h]
    · rw [if_neg e]; exact hg j (by omega)
  · simp (disch := omega) only [laws_toIntS.l0, if_neg]
    exact ev_now (eq_of_get ha fun j hj => hg j (by omega))
 termination_by l.length - i
theorem toIntS_ev (l : List Int) (hl : l.length ≤ 2000000) : Ev (fun k => laws_toIntS.f k l) l := by
  simp (disch := omega) only [laws_toIntS.f, if_pos, Int.toNat_natCast]
  exact toIntS_l0 l _ 0 (by omega) hl (by simp) (fun j hj => by omega)

/-! eqIntS -/
theorem eqIntS_l0 (l : List Int) (i : Nat) (hi : i ≤ l.length) (hl : l.length ≤ 2000000) : Ev (fun k => laws_eqIntS.l0 k l l (i : Int)) true := by
  refine ev_succ ?_
  by_cases h : i < l.length
  · simp (disch := omega) only [laws_eqIntS.l0, if_pos, w64]
    exact eqIntS_l0 l (i + 1) (by omega) hl
  · simp (disch := omega) only [laws_eqIntS.l0, if_neg]
    exact ev_now rfl
 termination_by l.length - i
theorem eqIntS_ev (l : List Int) (hl : l.length ≤ 2000000) : Ev (fun k => laws_eqIntS.f k l l) true := by
  simp (disch := omega) only [laws_eqIntS.f, if_pos]
  exact eqIntS_l0 l 0 (by omega) hl

/-! Dist -/
/-- A list of numbers that is a distribution. -/
def Dist (l : List Int) : Prop := (1 ≤ l.length ∧ l.length ≤ 16) ∧ (∀ x ∈ l, 0 ≤ x ∧ x ≤ 1000) ∧ 0 < l.sum
instance (l : List Int) : Decidable (Dist l) := by unfold Dist; infer_instance

/-! cum -/
/-- The sum of the weights of all demands up to q. -/
def cum (l : List Int) (q : Int) : Int := (l.take (q + 1).toNat).sum
theorem dist_len {l : List Int} (h : Dist l) : 1 ≤ l.length ∧ l.length ≤ 16 := h.1
theorem dist_small {l : List Int} (h : Dist l) : ∀ x ∈ l, 0 ≤ x ∧ x ≤ 1000000000 := fun x hx => by have := h.2.1 x hx; omega
theorem dist_cum {l : List Int} (h : Dist l) (q : Int) : 0 ≤ cum l q ∧ cum l q ≤ 16000 := by
  have := sum_take_bound l (q + 1).toNat 1000 h.2.1 16 h.1.2 (by omega)
  unfold cum; omega
theorem dist_sum {l : List Int} (h : Dist l) : 0 < l.sum ∧ l.sum ≤ 16000 := by
  have := sum_take_bound l l.length 1000 h.2.1 16 h.1.2 (by omega)
  rw [List.take_of_length_le (Nat.le_refl _)] at this
  have := h.2.2
  omega
theorem cum_all {l : List Int} (q : Int) (h : (l.length : Int) ≤ q + 1) : cum l q = l.sum := by
  unfold cum; rw [List.take_of_length_le (by omega)]

/-! overAcc -/
/-- The over sum of an order q, the short sum, of the first i demands. -/
def overAcc (l : List Int) (q : Int) : Nat → Int
  | 0 => 0
  | i + 1 => overAcc l q i + rd l (i : Int) * mx 0 (q - i)
def shortAcc (l : List Int) (q : Int) : Nat → Int
  | 0 => 0
  | i + 1 => shortAcc l q i + rd l (i : Int) * mx 0 (i - q)
def overR (l : List Int) (q : Int) : Int := overAcc l q l.length
def shortR (l : List Int) (q : Int) : Int := shortAcc l q l.length
theorem mx0_bd (x A : Int) (h : x ≤ A) (hA : 0 ≤ A) : 0 ≤ mx 0 x ∧ mx 0 x ≤ A := by
  unfold mx; split <;> omega
theorem dist_rd {l : List Int} (h : Dist l) (i : Nat) (hi : i < l.length) : 0 ≤ rd l (i : Int) ∧ rd l (i : Int) ≤ 1000 := h.2.1 _ (rd_mem l i hi)
theorem mul_bd0 {x y A B : Int} (hx : 0 ≤ x ∧ x ≤ A) (hy : 0 ≤ y ∧ y ≤ B) : 0 ≤ x * y ∧ x * y ≤ A * B :=
  ⟨Int.mul_nonneg hx.1 hy.1, Int.mul_le_mul hx.2 hy.2 hy.1 (by omega)⟩
theorem over_term {l : List Int} (h : Dist l) (q : Int) (hq : q ≤ 100) (i : Nat) (hi : i < l.length) : 0 ≤ rd l (i : Int) * mx 0 (q - i) ∧ rd l (i : Int) * mx 0 (q - i) ≤ 1000 * 100 :=
  mul_bd0 (dist_rd h i hi) (mx0_bd _ 100 (by omega) (by omega))
theorem short_term {l : List Int} (h : Dist l) (q : Int) (hq : 0 ≤ q) (i : Nat) (hi : i < l.length) : 0 ≤ rd l (i : Int) * mx 0 (i - q) ∧ rd l (i : Int) * mx 0 (i - q) ≤ 1000 * 100 :=
  mul_bd0 (dist_rd h i hi) (mx0_bd _ 100 (by have := h.1; omega) (by omega))
theorem overAcc_bd {l : List Int} (h : Dist l) (q : Int) (hq : q ≤ 100) (i : Nat) (hi : i ≤ l.length) : 0 ≤ overAcc l q i ∧ overAcc l q i ≤ 100000 * i := by
  induction i with
  | zero => simp [overAcc]
  | succ i ih =>
    have a := ih (by omega)
    have b := over_term h q hq i (by omega)
    simp only [overAcc]; omega
theorem shortAcc_bd {l : List Int} (h : Dist l) (q : Int) (hq : 0 ≤ q) (i : Nat) (hi : i ≤ l.length) : 0 ≤ shortAcc l q i ∧ shortAcc l q i ≤ 100000 * i := by
  induction i with
  | zero => simp [shortAcc]
  | succ i ih =>
    have a := ih (by omega)
    have b := short_term h q hq i (by omega)
    simp only [shortAcc]; omega
theorem overR_bd {l : List Int} (h : Dist l) (q : Int) (hq : q ≤ 100) : 0 ≤ overR l q ∧ overR l q ≤ 1600000 := by
  have := overAcc_bd h q hq l.length (Nat.le_refl _)
  have := h.1
  unfold overR; omega
theorem shortR_bd {l : List Int} (h : Dist l) (q : Int) (hq : 0 ≤ q) : 0 ≤ shortR l q ∧ shortR l q ≤ 1600000 := by
  have := shortAcc_bd h q hq l.length (Nat.le_refl _)
  have := h.1
  unfold shortR; omega

/-! wideGo -/
def wideGo (a b : List Int) : Nat → Int → Bool × Bool
  | 0, _ => (true, true)
  | d + 1, q => if wrap64 (shortR a q * b.sum) < wrap64 (shortR b q * a.sum) then (false, true) else wideGo a b d (q + 1)
def IsWiderR (a b : List Int) : Bool × Bool := if Dist a ∧ Dist b then (if wrap64 (shortR a 0 * b.sum) = wrap64 (shortR b 0 * a.sum) then wideGo a b 15 1 else (false, true)) else (false, false)

/-! within -/
theorem within_eq (a b c : Int) : impl_within.f a b c = some (decide (b ≤ a ∧ a ≤ c)) := by
  unfold impl_within.f
  by_cases h : a ≥ b
  · rw [if_pos h]; congr 1; rw [decide_eq_decide]; omega
  · rw [if_neg h]; congr 1; symm; rw [decide_eq_false_iff_not]; omega

/-! allWithin -/
theorem allWithin_l0 (l : List Int) (lo hi : Int) (i : Nat) (h1 : i ≤ l.length) (hl : l.length ≤ 2000000) :
    Ev (fun k => impl_allWithin.l0 k lo hi l (l.length : Int) (i : Int)) (decide (∀ x ∈ l.drop i, lo ≤ x ∧ x ≤ hi)) := by
  refine ev_succ ?_
  by_cases h : i < l.length
  · simp (disch := omega) only [impl_allWithin.l0, if_pos, within_eq, Option.bind_some, w64]
    rw [drop_rd l i h]
    by_cases c : lo ≤ rd l i ∧ rd l i ≤ hi
    · refine ev_ifp (by simpa using c) ?_
      refine ev_to (allWithin_l0 l lo hi (i + 1) (by omega) hl) ?_
      rw [decide_eq_decide]; simp [c]
    · refine ev_ifn (by simpa using c) (ev_now ?_)
      symm; rw [decide_eq_false_iff_not]; simp [c]
  · simp (disch := omega) only [impl_allWithin.l0, if_neg]
    exact ev_now (by simp [List.drop_eq_nil_of_le (show l.length ≤ i by omega)])
 termination_by l.length - i
theorem allWithin_ev (l : List Int) (lo hi : Int) (hl : l.length ≤ 2000000) : Ev (fun k => impl_allWithin.f k l lo hi) (decide (∀ x ∈ l, lo ≤ x ∧ x ≤ hi)) := by
  have h := allWithin_l0 l lo hi 0 (by omega) hl
  simpa [impl_allWithin.f] using h

/-! total -/
theorem total_l0 (l : List Int) (i : Nat) (h1 : i ≤ l.length) (hl : l.length ≤ 2000) (hb : ∀ x ∈ l, 0 ≤ x ∧ x ≤ 1000000000) :
    Ev (fun k => impl_total.l0 k (l.take i).sum l (l.length : Int) (i : Int)) l.sum := by
  refine ev_succ ?_
  by_cases h : i < l.length
  · have a := sum_take_bound l i 1000000000 hb 2000 hl (by omega)
    have b := sum_take_bound l (i + 1) 1000000000 hb 2000 hl (by omega)
    rw [sum_take_succ l i h] at b
    simp (disch := omega) only [impl_total.l0, if_pos, w64]
    rw [← sum_take_succ l i h]
    exact total_l0 l (i + 1) (by omega) hl hb
  · simp (disch := omega) only [impl_total.l0, if_neg]
    exact ev_now (by rw [List.take_of_length_le (by omega)])
 termination_by l.length - i
theorem total_ev (l : List Int) (hl : l.length ≤ 2000) (hb : ∀ x ∈ l, 0 ≤ x ∧ x ≤ 1000000000) : Ev (fun k => impl_total.f k l) l.sum := by
  have h := total_l0 l 0 (by omega) hl hb
  simpa [impl_total.f] using h

/-! IsDistribution -/
theorem IsDistribution_ev (l : List Int) (hl : l.length ≤ 2000000) : Ev (fun k => impl_IsDistribution.f k l) (decide (Dist l)) := by
  unfold impl_IsDistribution.f
  simp only [within_eq, Option.bind_some]
  by_cases h1 : (1 : Int) ≤ l.length ∧ (l.length : Int) ≤ 16
  · refine ev_ifp (by simpa using h1) (ev_bind (allWithin_ev l 0 1000 hl) ?_)
    by_cases h2 : ∀ x ∈ l, 0 ≤ x ∧ x ≤ 1000
    · refine ev_ifp (by simpa using h2) (ev_bind (total_ev l (by omega) (fun x hx => by have := h2 x hx; omega)) (ev_now ?_))
      rw [decide_eq_decide]; unfold Dist
      exact ⟨fun h => ⟨by omega, h2, by omega⟩, fun h => by omega⟩
    · refine ev_ifn (by simpa using h2) (ev_now ?_)
      symm; rw [decide_eq_false_iff_not]; unfold Dist
      exact fun h => h2 h.2.1
  · refine ev_ifn (by simpa using h1) (ev_now ?_)
    symm; rw [decide_eq_false_iff_not]; unfold Dist
    exact fun h => h1 (by omega)

/-! meanSum -/
theorem mx_nat (i : Nat) : mx 0 ((i : Int) - 0) = (i : Int) := by
  unfold mx; split <;> omega
theorem meanSum_l0 (l : List Int) (h : Dist l) (d : Nat) : ∀ i : Nat, i + d = l.length → Ev (fun k => impl_meanSum.l0 k l (shortAcc l 0 i) (i : Int)) (shortR l 0) := by
  have hl := h.1
  induction d with
  | zero =>
    intro i hi
    obtain rfl : i = l.length := by omega
    refine ev_succ ?_
    simp (disch := omega) only [impl_meanSum.l0, if_neg]
    exact ev_now rfl
  | succ d ih =>
    intro i hi
    have a := shortAcc_bd h 0 (by omega) i (by omega)
    have b := short_term h 0 (by omega) i (by omega)
    have e : shortAcc l 0 (i + 1) = shortAcc l 0 i + rd l (i : Int) * mx 0 ((i : Int) - 0) := rfl
    rw [mx_nat] at b e
    refine ev_succ ?_
    simp only [impl_meanSum.l0]
    rw [w64 (x := rd l (i : Int) * (i : Int)) (by omega) (by omega), w64 (x := shortAcc l 0 i + rd l (i : Int) * (i : Int)) (by omega) (by omega), w64 (x := (i : Int) + 1) (by omega) (by omega), ← e]
    exact ev_ifp (by omega) (ev_ifp (by omega) (ih (i + 1) (by omega)))
theorem meanSum_ev (l : List Int) (h : Dist l) : Ev (fun k => impl_meanSum.f k l) (shortR l 0) :=
  meanSum_l0 l h l.length 0 (by omega)

/-! shortSum -/
theorem shortSum_l0 (l : List Int) (h : Dist l) (q : Int) (h0 : 0 ≤ q) (h1 : q ≤ 100) (d : Nat) : ∀ i : Nat, i + d = l.length → Ev (fun k => impl_shortSum.l0 k l q (shortAcc l q i) (i : Int)) (shortR l q) := by
  have hl := h.1
  induction d with
  | zero =>
    intro i hi
    obtain rfl : i = l.length := by omega
    refine ev_succ ?_
    simp (disch := omega) only [impl_shortSum.l0, if_neg]
    exact ev_now rfl
  | succ d ih =>
    intro i hi
    have a := shortAcc_bd h q h0 i (by omega)
    have b := short_term h q h0 i (by omega)
    refine ev_succ ?_
    simp only [impl_shortSum.l0]
    rw [w64 (x := (i : Int) - q) (by omega) (by omega), w64 (x := rd l (i : Int) * mx 0 (i - q)) (by omega) (by omega), w64 (x := shortAcc l q i + rd l (i : Int) * mx 0 (i - q)) (by omega) (by omega), w64 (x := (i : Int) + 1) (by omega) (by omega)]
    exact ev_ifp (by omega) (ev_ifp (by omega) (ih (i + 1) (by omega)))
theorem shortSum_ev (l : List Int) (h : Dist l) (q : Int) (h0 : 0 ≤ q) (h1 : q ≤ 100) : Ev (fun k => impl_shortSum.f k l q) (shortR l q) :=
  shortSum_l0 l h q h0 h1 l.length 0 (by omega)

/-! IsWider -/
theorem IsWider_l0 (a b : List Int) (ha : Dist a) (hb : Dist b) (d : Nat) : ∀ q : Int, 0 ≤ q → q + d = 16 → Ev (fun k => impl_IsWider.l0 k a b q) (wideGo a b d q) := by
  have la := dist_len ha
  have lb := dist_len hb
  induction d with
  | zero =>
    intro q h0 h1
    refine ev_succ ?_
    simp only [impl_IsWider.l0]
    exact ev_ifn (by omega) (ev_now rfl)
  | succ d ih =>
    intro q h0 h1
    refine ev_succ ?_
    simp only [impl_IsWider.l0]
    refine ev_ifp (by omega) (ev_bind (shortSum_ev a ha q h0 (by omega)) (ev_bind (total_ev b (by omega) (dist_small hb)) (ev_bind (shortSum_ev b hb q h0 (by omega)) (ev_bind (total_ev a (by omega) (dist_small ha)) ?_))))
    unfold wideGo
    by_cases c : wrap64 (shortR a q * b.sum) < wrap64 (shortR b q * a.sum)
    · rw [if_pos c]; exact ev_ifp c (ev_now rfl)
    · rw [if_neg c]; refine ev_ifn c ?_
      rw [w64 (by omega) (by omega)]
      exact ih (q + 1) (by omega) (by omega)
theorem IsWider_ev (a b : List Int) (hla : a.length ≤ 2000000) (hlb : b.length ≤ 2000000) : Ev (fun k => impl_IsWider.f k a b) (IsWiderR a b) := by
  unfold impl_IsWider.f IsWiderR
  refine ev_bind (IsDistribution_ev a hla) ?_
  by_cases ha : Dist a
  · have la := dist_len ha
    refine ev_ifp (by simpa using ha) (ev_bind (IsDistribution_ev b hlb) (ev_succ ?_))
    simp only [impl_IsWider.j0]
    by_cases hb : Dist b
    · have lb := dist_len hb
      rw [if_pos (show Dist a ∧ Dist b from ⟨ha, hb⟩)]
      refine ev_ifn (by simpa using hb) (ev_bind (meanSum_ev a ha) (ev_bind (total_ev b (by omega) (dist_small hb)) (ev_bind (meanSum_ev b hb) (ev_bind (total_ev a (by omega) (dist_small ha)) ?_))))
      by_cases e : wrap64 (shortR a 0 * b.sum) = wrap64 (shortR b 0 * a.sum)
      · refine ev_to (ev_ifp e (IsWider_l0 a b ha hb 16 0 (by omega) (by omega))) ?_
        rw [if_pos e]
        conv => lhs; unfold wideGo
        rw [if_neg (by omega)]; rfl
      · exact ev_to (ev_ifn e (ev_now rfl)) (if_neg e).symm
    · rw [if_neg (fun z => hb z.2)]; exact ev_ifp (by simpa using hb) (ev_now rfl)
  · rw [if_neg (fun z => ha z.1)]
    refine ev_ifn (by simpa using ha) (ev_succ ?_)
    simp only [impl_IsWider.j0]
    exact ev_ifp trivial (ev_now rfl)

/-! l1In -/
theorem l1In_eq (a b c : Int) : spec_l1In.f a b c = some (decide (b ≤ a ∧ a ≤ c)) := by
  unfold spec_l1In.f
  by_cases h : a ≥ b
  · rw [if_pos h]; congr 1; rw [decide_eq_decide]; omega
  · rw [if_neg h]; congr 1; symm; rw [decide_eq_false_iff_not]; omega

/-! l2Row -/
theorem l2Row_l0 (l : List Int) (n hi : Int) (i : Nat) (h1 : i ≤ l.length) (hl : l.length ≤ 2000000) :
    Ev (fun k => spec_l2Row.l0 k l n hi (i : Int)) (decide ((∀ x ∈ l.drop i, 0 ≤ x ∧ x ≤ hi) ∧ (l.length : Int) = n)) := by
  refine ev_succ ?_
  by_cases h : i < l.length
  · simp (disch := omega) only [spec_l2Row.l0, if_pos, l1In_eq, Option.bind_some, w64]
    rw [drop_rd l i h]
    by_cases c : 0 ≤ rd l i ∧ rd l i ≤ hi
    · refine ev_ifp (by simpa using c) ?_
      refine ev_to (l2Row_l0 l n hi (i + 1) (by omega) hl) ?_
      rw [decide_eq_decide]; simp [c]
    · refine ev_ifn (by simpa using c) (ev_now ?_)
      symm; rw [decide_eq_false_iff_not]; simp [c]
  · simp (disch := omega) only [spec_l2Row.l0, if_neg]
    exact ev_now (by
      rw [List.drop_eq_nil_of_le (show l.length ≤ i by omega)]
      rw [Bool.eq_iff_iff]; simp)
 termination_by l.length - i
theorem l2Row_ev (l : List Int) (n hi : Int) (hl : l.length ≤ 2000000) : Ev (fun k => spec_l2Row.f k l n hi) (decide ((∀ x ∈ l, 0 ≤ x ∧ x ≤ hi) ∧ (l.length : Int) = n)) := by
  have h := l2Row_l0 l n hi 0 (by omega) hl
  simpa [spec_l2Row.f] using h

/-! l2Sum -/
theorem l2Sum_l0 (l : List Int) (i : Nat) (h1 : i ≤ l.length) (hl : l.length ≤ 2000) (hb : ∀ x ∈ l, 0 ≤ x ∧ x ≤ 1000000000) :
    Ev (fun k => spec_l2Sum.l0 k l (l.take i).sum (i : Int)) l.sum := by
  refine ev_succ ?_
  by_cases h : i < l.length
  · have a := sum_take_bound l i 1000000000 hb 2000 hl (by omega)
    have b := sum_take_bound l (i + 1) 1000000000 hb 2000 hl (by omega)
    rw [sum_take_succ l i h] at b
    simp (disch := omega) only [spec_l2Sum.l0, if_pos, w64]
    rw [← sum_take_succ l i h]
    exact l2Sum_l0 l (i + 1) (by omega) hl hb
  · simp (disch := omega) only [spec_l2Sum.l0, if_neg]
    exact ev_now (by rw [List.take_of_length_le (by omega)])
 termination_by l.length - i
theorem l2Sum_ev (l : List Int) (hl : l.length ≤ 2000) (hb : ∀ x ∈ l, 0 ≤ x ∧ x ≤ 1000000000) : Ev (fun k => spec_l2Sum.f k l) l.sum := by
  have h := l2Sum_l0 l 0 (by omega) hl hb
  simpa [spec_l2Sum.f] using h

/-! l5Total -/
theorem l5Total_ev (l : List Int) (hl : l.length ≤ 2000) (hb : ∀ x ∈ l, 0 ≤ x ∧ x ≤ 1000000000) : Ev (fun k => spec_l5Total.f k l) l.sum := by
  unfold spec_l5Total.f
  exact ev_bind (l2Sum_ev l hl hb) (ev_now rfl)

/-! l5Good -/
theorem l5Good_ev (l : List Int) (hl : l.length ≤ 2000000) : Ev (fun k => spec_l5Good.f k l) (decide (Dist l)) := by
  unfold spec_l5Good.f
  simp only [l1In_eq, Option.bind_some]
  by_cases h1 : (1 : Int) ≤ l.length ∧ (l.length : Int) ≤ 16
  · refine ev_ifp (by simpa using h1) (ev_bind (l2Row_ev l _ 1000 hl) ?_)
    by_cases h2 : ∀ x ∈ l, 0 ≤ x ∧ x ≤ 1000
    · refine ev_ifp (by simpa using h2) (ev_bind (l5Total_ev l (by omega) (fun x hx => by have := h2 x hx; omega)) (ev_now ?_))
      rw [decide_eq_decide]; unfold Dist
      exact ⟨fun h => ⟨by omega, h2, by omega⟩, fun h => by omega⟩
    · refine ev_ifn (by simpa using h2) (ev_now ?_)
      symm; rw [decide_eq_false_iff_not]; unfold Dist
      exact fun h => h2 h.2.1
  · refine ev_ifn (by simpa using h1) (ev_now ?_)
    symm; rw [decide_eq_false_iff_not]; unfold Dist
    exact fun h => h1 (by omega)

/-! l1Most -/
theorem l1Most_eq (a b : Int) : spec_l1Most.f a b = some (mx a b) := by
  unfold spec_l1Most.f mx
  split <;> split <;> first | rfl | (congr 1; omega)

/-! l5Short -/
theorem l5Short_l0 (l : List Int) (h : Dist l) (q : Int) (h0 : 0 ≤ q) (h1 : q ≤ 100) (d : Nat) : ∀ i : Nat, i + d = l.length → Ev (fun k => spec_l5Short.l0 k l q (shortAcc l q i) (i : Int)) (shortR l q) := by
  have hl := h.1
  induction d with
  | zero =>
    intro i hi
    obtain rfl : i = l.length := by omega
    refine ev_succ ?_
    simp (disch := omega) only [spec_l5Short.l0, if_neg]
    exact ev_now rfl
  | succ d ih =>
    intro i hi
    have a := shortAcc_bd h q h0 i (by omega)
    have b := short_term h q h0 i (by omega)
    refine ev_succ ?_
    simp only [spec_l5Short.l0, l1Most_eq, Option.bind_some]
    rw [w64 (x := (i : Int) - q) (by omega) (by omega), w64 (x := rd l (i : Int) * mx 0 (i - q)) (by omega) (by omega), w64 (x := shortAcc l q i + rd l (i : Int) * mx 0 (i - q)) (by omega) (by omega), w64 (x := (i : Int) + 1) (by omega) (by omega)]
    exact ev_ifp (by omega) (ev_ifp (by omega) (ih (i + 1) (by omega)))
theorem l5Short_ev (l : List Int) (h : Dist l) (q : Int) (h0 : 0 ≤ q) (h1 : q ≤ 100) : Ev (fun k => spec_l5Short.f k l q) (shortR l q) :=
  l5Short_l0 l h q h0 h1 l.length 0 (by omega)

/-! spec_IsWider -/
theorem spec_IsWider_l0 (a b : List Int) (ha : Dist a) (hb : Dist b) (d : Nat) : ∀ q : Int, 1 ≤ q → q + d = 16 → Ev (fun k => spec_IsWider.l0 k a b q) (wideGo a b d q) := by
  have la := dist_len ha
  have lb := dist_len hb
  induction d with
  | zero =>
    intro q h0 h1
    refine ev_succ ?_
    simp only [spec_IsWider.l0]
    exact ev_ifn (by omega) (ev_now rfl)
  | succ d ih =>
    intro q h0 h1
    refine ev_succ ?_
    simp only [spec_IsWider.l0]
    refine ev_ifp (by omega) (ev_bind (l5Short_ev a ha q (by omega) (by omega)) (ev_bind (l5Total_ev b (by omega) (dist_small hb)) (ev_bind (l5Short_ev b hb q (by omega) (by omega)) (ev_bind (l5Total_ev a (by omega) (dist_small ha)) ?_))))
    unfold wideGo
    by_cases c : wrap64 (shortR a q * b.sum) < wrap64 (shortR b q * a.sum)
    · rw [if_pos c]; exact ev_ifp c (ev_now rfl)
    · rw [if_neg c]; refine ev_ifn c (ev_ifn (by omega) ?_)
      rw [w64 (by omega) (by omega)]
      exact ih (q + 1) (by omega) (by omega)
theorem spec_IsWider_ev (a b : List Int) (hla : a.length ≤ 2000000) (hlb : b.length ≤ 2000000) : Ev (fun k => spec_IsWider.f k a b) (IsWiderR a b) := by
  unfold spec_IsWider.f IsWiderR
  refine ev_bind (l5Good_ev a hla) ?_
  by_cases ha : Dist a
  · have la := dist_len ha
    refine ev_ifp (by simpa using ha) (ev_bind (l5Good_ev b hlb) (ev_succ ?_))
    simp only [spec_IsWider.j0]
    by_cases hb : Dist b
    · have lb := dist_len hb
      rw [if_pos (show Dist a ∧ Dist b from ⟨ha, hb⟩)]
      refine ev_ifn (by simpa using hb) (ev_succ ?_)
      simp only [spec_IsWider.l0]
      refine ev_ifp (by omega) (ev_bind (l5Short_ev a ha 0 (by omega) (by omega)) (ev_bind (l5Total_ev b (by omega) (dist_small hb)) (ev_bind (l5Short_ev b hb 0 (by omega) (by omega)) (ev_bind (l5Total_ev a (by omega) (dist_small ha)) ?_))))
      by_cases e : wrap64 (shortR a 0 * b.sum) = wrap64 (shortR b 0 * a.sum)
      · refine ev_to (ev_ifn (by omega) (ev_ifp trivial (ev_ifp e (r := wideGo a b 15 1) ?_))) (if_pos e).symm
        rw [w64 (by omega) (by omega)]
        exact spec_IsWider_l0 a b ha hb 15 1 (by omega) (by omega)
      · refine ev_to (r := (false, true)) ?_ (if_neg e).symm
        by_cases c : wrap64 (shortR a 0 * b.sum) < wrap64 (shortR b 0 * a.sum)
        · exact ev_ifp c (ev_now rfl)
        · exact ev_ifn c (ev_ifp trivial (ev_ifn e (ev_now rfl)))
    · rw [if_neg (fun z => hb z.2)]; exact ev_ifp (by simpa using hb) (ev_now rfl)
  · rw [if_neg (fun z => ha z.1)]
    refine ev_ifn (by simpa using ha) (ev_succ ?_)
    simp only [spec_IsWider.j0]
    exact ev_ifp trivial (ev_now rfl)

/-! LAW FnExactIsWider -/
theorem FnExactIsWider : laws_FnExactIsWider.Pure := by
  intro l0 l1 _ _ _ _ _ _
  refine Ev.rounds ?_
  unfold laws_FnExactIsWider.f
  by_cases h0 : (l0.length : Int) > 1048576
  · exact ev_ifp h0 (ev_now rfl)
  refine ev_ifn h0 ?_
  by_cases h1 : (l1.length : Int) > 1048576
  · exact ev_ifp h1 (ev_now rfl)
  refine ev_ifn h1 ?_
  have hl0 : l0.length ≤ 2000000 := by omega
  have hl1 : l1.length ≤ 2000000 := by omega
  have hs := spec_IsWider_ev l0 l1 hl0 hl1
  have hi := IsWider_ev l0 l1 hl0 hl1
  repeat (first
    | exact ev_now rfl
    | refine ev_bind hs ?_
    | refine ev_bind hi ?_
    | (refine ev_bind (toIntS_ev _ ?_) ?_; first | assumption | omega)
    | (refine ev_bind (eqIntS_ev _ ?_) ?_; first | assumption | omega)
    | (refine ev_ifp ?_ ?_; first | rfl | omega | focus (simp; done))
    | (refine ev_ifn ?_ ?_; first | omega | focus (simp; done))
    | (refine ev_succ ?_; simp only [laws_FnExactIsWider.j0]))


end Go.Proofs.Ytdphfhjlbjkdgaa.Pure
