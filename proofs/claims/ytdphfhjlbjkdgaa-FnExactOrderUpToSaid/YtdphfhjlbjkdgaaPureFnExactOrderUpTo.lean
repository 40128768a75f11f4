/- The pure statement of the law FnExactOrderUpTo: what the program's function answers is what the reference answers, for all arguments of the kinds of its parameters. -/
import Derived.Test.YtdphfhjlbjkdgaaQFnExactOrderUpTox3
import Derived.Test.YtdphfhjlbjkdgaaBase
namespace Go.Proofs.Ytdphfhjlbjkdgaa.Pure
set_option linter.unusedSimpArgs false
open Go.RowKit Go.Proofs.Ytdphfhjlbjkdgaa.PFnExactOrderUpTo Go.Proofs.YtdphfhjlbjkdgaaW.PrintWords Go.Proofs.YtdphfhjlbjkdgaaW.PrintLast Go.Proofs.Ytdphfhjlbjkdgaa.Base

/-! toIntS -/
theorem toIntS_l0 (l acc : List Int) (i : Nat) (hi : i ≤ l.length) (hl : l.length ≤ 2000000) (ha : acc.length = l.length) (hg : ∀ j, j < i → acc[j]? = l[j]?) :
    Ev (fun k => laws_toIntS.l0 k l acc (i : Int)) l := by
  refine ev_succ ?_
  by_cases h : i < l.length
  · simp (disch := omega) only [laws_toIntS.l0, if_pos, w64, Int.toNat_natCast]
    refine toIntS_l0 l (acc.set i (rd l i)) (i + 1) (by omega) hl (by simpa using ha) (fun j hj => ?_)
    rw [set_get _ _ _ _ (by omega)]
    by_cases e : j = i
    · subst e; rw [if_pos rfl, get_rd l j h]
    · rw [if_neg e]; exact hg j (by omega)
  · simp (disch := omega) only [laws_toIntS.l0, if_neg]
    exact ev_now (eq_of_get ha fun j hj => hg j (by omega))
 termination_by l.length - i
theorem toIntS_ev (l : List Int) (hl : l.length ≤ 2000000) : Ev (fun k => laws_toIntS.f k l) l := by
  simp (disch := omega) only [laws_toIntS.f, if_pos, Int.toNat_natCast]
  exact toIntS_l0 l _ 0 (by omega) hl (by simp) (fun j hj => by omega)

/-! eqIntS -/
theorem eqIntS_l0 (l : List Int) (i : Nat) (hi : i ≤ l.length) (hl : l.length ≤ 2000000) : Ev (fun k => laws_eqIntS.l0 k l l (i : Int)) true := by
  refine ev_succ ?_
  by_cases h : i < l.length
  · simp (disch := omega) only [laws_eqIntS.l0, if_pos, w64]
    exact eqIntS_l0 l (i + 1) (by omega) hl
  · simp (disch := omega) only [laws_eqIntS.l0, if_neg]
    exact ev_now rfl
 termination_by l.length - i
theorem eqIntS_ev (l : List Int) (hl : l.length ≤ 2000000) : Ev (fun k => laws_eqIntS.f k l l) true := by
  simp (disch := omega) only [laws_eqIntS.f, if_pos]
  exact eqIntS_l0 l 0 (by omega) hl

/-! Dist -/
/-- A list of numbers that is a distribution. -/
def Dist (l : List Int) : Prop := (1 ≤ l.length ∧ l.length ≤ 16) ∧ (∀ x ∈ l, 0 ≤ x ∧ x ≤ 1000) ∧ 0 < l.sum
instance (l : List Int) : Decidable (Dist l) := by unfold Dist; infer_instance

/-! cum -/
/-- The sum of the weights of all demands up to q. -/
def cum (l : List Int) (q : Int) : Int := (l.take (q + 1).toNat).sum
theorem dist_len {l : List Int} (h : Dist l) : 1 ≤ l.length ∧ l.length ≤ 16 := h.1
theorem dist_small {l : List Int} (h : Dist l) : ∀ x ∈ l, 0 ≤ x ∧ x ≤ 1000000000 := fun x hx => by have := h.2.1 x hx; omega
theorem dist_cum {l : List Int} (h : Dist l) (q : Int) : 0 ≤ cum l q ∧ cum l q ≤ 16000 := by
  have := sum_take_bound l (q + 1).toNat 1000 h.2.1 16 h.1.2 (by omega)
  unfold cum; omega
theorem dist_sum {l : List Int} (h : Dist l) : 0 < l.sum ∧ l.sum ≤ 16000 := by
  have := sum_take_bound l l.length 1000 h.2.1 16 h.1.2 (by omega)
  rw [List.take_of_length_le (Nat.le_refl _)] at this
  have := h.2.2
  omega
theorem cum_all {l : List Int} (q : Int) (h : (l.length : Int) ≤ q + 1) : cum l q = l.sum := by
  unfold cum; rw [List.take_of_length_le (by omega)]

/-! overAcc -/
/-- The over sum of an order q, the short sum, of the first i demands. -/
def overAcc (l : List Int) (q : Int) : Nat → Int
  | 0 => 0
  | i + 1 => overAcc l q i + rd l (i : Int) * mx 0 (q - i)
def shortAcc (l : List Int) (q : Int) : Nat → Int
  | 0 => 0
  | i + 1 => shortAcc l q i + rd l (i : Int) * mx 0 (i - q)
def overR (l : List Int) (q : Int) : Int := overAcc l q l.length
def shortR (l : List Int) (q : Int) : Int := shortAcc l q l.length
theorem mx0_bd (x A : Int) (h : x ≤ A) (hA : 0 ≤ A) : 0 ≤ mx 0 x ∧ mx 0 x ≤ A := by
  unfold mx; split <;> omega
theorem dist_rd {l : List Int} (h : Dist l) (i : Nat) (hi : i < l.length) : 0 ≤ rd l (i : Int) ∧ rd l (i : Int) ≤ 1000 := h.2.1 _ (rd_mem l i hi)
theorem mul_bd0 {x y A B : Int} (hx : 0 ≤ x ∧ x ≤ A) (hy : 0 ≤ y ∧ y ≤ B) : 0 ≤ x * y ∧ x * y ≤ A * B :=
  ⟨Int.mul_nonneg hx.1 hy.1, Int.mul_le_mul hx.2 hy.2 hy.1 (by omega)⟩
theorem over_term {l : List Int} (h : Dist l) (q : Int) (hq : q ≤ 100) (i : Nat) (hi : i < l.length) : 0 ≤ rd l (i : Int) * mx 0 (q - i) ∧ rd l (i : Int) * mx 0 (q - i) ≤ 1000 * 100 :=
  mul_bd0 (dist_rd h i hi) (mx0_bd _ 100 (by omega) (by omega))
theorem short_term {l : List Int} (h : Dist l) (q : Int) (hq : 0 ≤ q) (i : Nat) (hi : i < l.length) : 0 ≤ rd l (i : Int) * mx 0 (i - q) ∧ rd l (i : Int) * mx 0 (i - q) ≤ 1000 * 100 :=
  mul_bd0 (dist_rd h i hi) (mx0_bd _ 100 (by have := h.1; omega) (by omega))
theorem overAcc_bd {l : List Int} (h : Dist l) (q : Int) (hq : q ≤ 100) (i : Nat) (hi : i ≤ l.length) : 0 ≤ overAcc l q i ∧ overAcc l q i ≤ 100000 * i := by
  induction i with
  | zero => simp [overAcc]
  | succ i ih =>
    have a := ih (by omega)
    have b := over_term h q hq i (by omega)
    simp only [overAcc]; omega
theorem shortAcc_bd {l : List Int} (h : Dist l) (q : Int) (hq : 0 ≤ q) (i : Nat) (hi : i ≤ l.length) : 0 ≤ shortAcc l q i ∧ shortAcc l q i ≤ 100000 * i := by
  induction i with
  | zero => simp [shortAcc]
  | succ i ih =>
    have a := ih (by omega)
    have b := short_term h q hq i (by omega)
    simp only [shortAcc]; omega
theorem overR_bd {l : List Int} (h : Dist l) (q : Int) (hq : q ≤ 100) : 0 ≤ overR l q ∧ overR l q ≤ 1600000 := by
  have := overAcc_bd h q hq l.length (Nat.le_refl _)
  have := h.1
  unfold overR; omega
theorem shortR_bd {l : List Int} (h : Dist l) (q : Int) (hq : 0 ≤ q) : 0 ≤ shortR l q ∧ shortR l q ≤ 1600000 := by
  have := shortAcc_bd h q hq l.length (Nat.le_refl _)
  have := h.1
  unfold shortR; omega

/-! Chg -/
def Chg (o u : Int) : Prop := (0 ≤ o ∧ o ≤ 20) ∧ (0 ≤ u ∧ u ≤ 20)
instance (o u : Int) : Decidable (Chg o u) := by unfold Chg; infer_instance

/-! costR -/
/-- The cost sum of an order. -/
def costR (l : List Int) (o u q : Int) : Int := o * overR l q + u * shortR l q
theorem cost_parts {l : List Int} {o u : Int} (h : Dist l) (hc : Chg o u) (q : Int) (h0 : 0 ≤ q) (h1 : q ≤ 100) : (0 ≤ o * overR l q ∧ o * overR l q ≤ 20 * 1600000) ∧ (0 ≤ u * shortR l q ∧ u * shortR l q ≤ 20 * 1600000) :=
  ⟨mul_bd0 hc.1 (overR_bd h q h1), mul_bd0 hc.2 (shortR_bd h q h0)⟩

/-! lvlGo -/
/-- The cost sum of a stock y with which a period is begun, with that of the units and of an order. -/
def begunR (l : List Int) (o u unit setup stock y : Int) : Int := costR l o u y + l.sum * unit * y + if y > stock then l.sum * setup else 0
def lvlGo (v : Int → Int) : Nat → Int → Int → Int
  | 0, _, b => b
  | d + 1, y, b => lvlGo v d (y + 1) (if v y < v b then y else b)
def levelR (l : List Int) (o u unit setup stock : Int) : Int := lvlGo (begunR l o u unit setup stock) (15 - stock).toNat (stock + 1) stock
def Asks (l : List Int) (o u unit setup : Int) : Prop := Dist l ∧ Chg o u ∧ (0 ≤ unit ∧ unit ≤ 20) ∧ (0 ≤ setup ∧ setup ≤ 30)
instance (l : List Int) (o u unit setup : Int) : Decidable (Asks l o u unit setup) := by unfold Asks; infer_instance
theorem begun_parts {l : List Int} {o u unit setup : Int} (a : Asks l o u unit setup) (y : Int) (h0 : 0 ≤ y) (h1 : y ≤ 15) :
    (0 ≤ costR l o u y ∧ costR l o u y ≤ 64000000) ∧ (0 ≤ l.sum * unit ∧ l.sum * unit ≤ 16000 * 20) ∧ (0 ≤ l.sum * unit * y ∧ l.sum * unit * y ≤ 16000 * 20 * 15) ∧ (0 ≤ l.sum * setup ∧ l.sum * setup ≤ 16000 * 30) := by
  obtain ⟨h, hc, hu, hs⟩ := a
  have p := cost_parts h hc y h0 (by omega)
  have t : 0 ≤ l.sum ∧ l.sum ≤ 16000 := by have := dist_sum h; omega
  have q := mul_bd0 t hu
  exact ⟨by unfold costR; omega, q, mul_bd0 q ⟨h0, h1⟩, mul_bd0 t hs⟩

/-! overSum -/
theorem overSum_l0 (l : List Int) (h : Dist l) (q : Int) (h0 : 0 ≤ q) (h1 : q ≤ 100) (d : Nat) : ∀ i : Nat, i + d = l.length → Ev (fun k => impl_overSum.l0 k l q (overAcc l q i) (i : Int)) (overR l q) := by
  have hl := h.1
  induction d with
  | zero =>
    intro i hi
    obtain rfl : i = l.length := by omega
    refine ev_succ ?_
    simp (disch := omega) only [impl_overSum.l0, if_neg]
    exact ev_now rfl
  | succ d ih =>
    intro i hi
    have a := overAcc_bd h q h1 i (by omega)
    have b := over_term h q h1 i (by omega)
    refine ev_succ ?_
    simp only [impl_overSum.l0]
    rw [w64 (x := q - (i : Int)) (by omega) (by omega), w64 (x := rd l (i : Int) * mx 0 (q - i)) (by omega) (by omega), w64 (x := overAcc l q i + rd l (i : Int) * mx 0 (q - i)) (by omega) (by omega), w64 (x := (i : Int) + 1) (by omega) (by omega)]
    exact ev_ifp (by omega) (ev_ifp (by omega) (ih (i + 1) (by omega)))
theorem overSum_ev (l : List Int) (h : Dist l) (q : Int) (h0 : 0 ≤ q) (h1 : q ≤ 100) : Ev (fun k => impl_overSum.f k l q) (overR l q) :=
  overSum_l0 l h q h0 h1 l.length 0 (by omega)

/-! shortSum -/
theorem shortSum_l0 (l : List Int) (h : Dist l) (q : Int) (h0 : 0 ≤ q) (h1 : q ≤ 100) (d : Nat) : ∀ i : Nat, i + d = l.length → Ev (fun k => impl_shortSum.l0 k l q (shortAcc l q i) (i : Int)) (shortR l q) := by
  have hl := h.1
  induction d with
  | zero =>
    intro i hi
    obtain rfl : i = l.length := by omega
    refine ev_succ ?_
    simp (disch := omega) only [impl_shortSum.l0, if_neg]
    exact ev_now rfl
  | succ d ih =>
    intro i hi
    have a := shortAcc_bd h q h0 i (by omega)
    have b := short_term h q h0 i (by omega)
    refine ev_succ ?_
    simp only [impl_shortSum.l0]
    rw [w64 (x := (i : Int) - q) (by omega) (by omega), w64 (x := rd l (i : Int) * mx 0 (i - q)) (by omega) (by omega), w64 (x := shortAcc l q i + rd l (i : Int) * mx 0 (i - q)) (by omega) (by omega), w64 (x := (i : Int) + 1) (by omega) (by omega)]
    exact ev_ifp (by omega) (ev_ifp (by omega) (ih (i + 1) (by omega)))
theorem shortSum_ev (l : List Int) (h : Dist l) (q : Int) (h0 : 0 ≤ q) (h1 : q ≤ 100) : Ev (fun k => impl_shortSum.f k l q) (shortR l q) :=
  shortSum_l0 l h q h0 h1 l.length 0 (by omega)

/-! costSum -/
theorem costSum_ev (l : List Int) (h : Dist l) (o u : Int) (hc : Chg o u) (q : Int) (h0 : 0 ≤ q) (h1 : q ≤ 100) : Ev (fun k => impl_costSum.f k l o u q) (costR l o u q) := by
  have b := cost_parts h hc q h0 h1
  unfold impl_costSum.f
  refine ev_bind (overSum_ev l h q h0 h1) (ev_bind (shortSum_ev l h q h0 h1) (ev_now ?_))
  rw [w64 (x := o * overR l q) (by omega) (by omega), w64 (x := u * shortR l q) (by omega) (by omega), w64 (by omega) (by omega)]; rfl

/-! total -/
theorem total_l0 (l : List Int) (i : Nat) (h1 : i ≤ l.length) (hl : l.length ≤ 2000) (hb : ∀ x ∈ l, 0 ≤ x ∧ x ≤ 1000000000) :
    Ev (fun k => impl_total.l0 k (l.take i).sum l (l.length : Int) (i : Int)) l.sum := by
  refine ev_succ ?_
  by_cases h : i < l.length
  · have a := sum_take_bound l i 1000000000 hb 2000 hl (by omega)
    have b := sum_take_bound l (i + 1) 1000000000 hb 2000 hl (by omega)
    rw [sum_take_succ l i h] at b
    simp (disch := omega) only [impl_total.l0, if_pos, w64]
    rw [← sum_take_succ l i h]
    exact total_l0 l (i + 1) (by omega) hl hb
  · simp (disch := omega) only [impl_total.l0, if_neg]
    exact ev_now (by rw [List.take_of_length_le (by omega)])
 termination_by l.length - i
theorem total_ev (l : List Int) (hl : l.length ≤ 2000) (hb : ∀ x ∈ l, 0 ≤ x ∧ x ≤ 1000000000) : Ev (fun k => impl_total.f k l) l.sum := by
  have h := total_l0 l 0 (by omega) hl hb
  simpa [impl_total.f] using h

/-! orderUpTo -/
theorem orderUpTo_l0 (l : List Int) (o u unit setup stock : Int) (a : Asks l o u unit setup) (hs0 : 0 ≤ stock) (d : Nat) : ∀ (y b : Int), stock < y → y + d = 16 → 0 ≤ b → b ≤ 15 →
    Ev (fun k => impl_orderUpTo.l0 k l o u unit setup stock b (begunR l o u unit setup stock b) y) (lvlGo (begunR l o u unit setup stock) d y b) := by
  have hl := dist_len a.1
  induction d with
  | zero =>
    intro y b h0 h1 hb0 hb1
    refine ev_succ ?_
    simp only [impl_orderUpTo.l0]
    exact ev_ifn (by omega) (ev_now rfl)
  | succ d ih =>
    intro y b h0 h1 hb0 hb1
    obtain ⟨p1, p2, p3, p4⟩ := begun_parts a y (by omega) (by omega)
    have e : costR l o u y + l.sum * unit * y + l.sum * setup = begunR l o u unit setup stock y := by unfold begunR; rw [if_pos h0]
    refine ev_succ ?_
    simp only [impl_orderUpTo.l0]
    refine ev_ifp (by omega) (ev_bind (costSum_ev l a.1 o u a.2.1 y (by omega) (by omega)) (ev_bind (total_ev l (by omega) (dist_small a.1)) (ev_ifp (by omega) (ev_bind (total_ev l (by omega) (dist_small a.1)) ?_))))
    rw [w64 (x := l.sum * unit) (by omega) (by omega), w64 (x := l.sum * unit * y) (by omega) (by omega), w64 (x := costR l o u y + l.sum * unit * y) (by omega) (by omega), w64 (x := l.sum * setup) (by omega) (by omega), w64 (x := costR l o u y + l.sum * unit * y + l.sum * setup) (by omega) (by omega), e, w64 (x := y + 1) (by omega) (by omega)]
    unfold lvlGo
    by_cases c : begunR l o u unit setup stock y < begunR l o u unit setup stock b
    · rw [if_pos c]; exact ev_ifp c (ih (y + 1) y (by omega) (by omega) (by omega) (by omega))
    · rw [if_neg c]; exact ev_ifn c (ih (y + 1) b (by omega) (by omega) hb0 hb1)
theorem orderUpTo_ev (l : List Int) (o u unit setup stock : Int) (a : Asks l o u unit setup) (hs0 : 0 ≤ stock) (hs1 : stock ≤ 15) : Ev (fun k => impl_orderUpTo.f k l o u unit setup stock) (levelR l o u unit setup stock) := by
  have hl := dist_len a.1
  obtain ⟨p1, p2, p3, p4⟩ := begun_parts a stock hs0 hs1
  have e : costR l o u stock + l.sum * unit * stock = begunR l o u unit setup stock stock := by unfold begunR; rw [if_neg (by omega)]; omega
  unfold impl_orderUpTo.f
  refine ev_succ ?_
  simp only [impl_orderUpTo.l0]
  refine ev_ifp (by omega) (ev_bind (costSum_ev l a.1 o u a.2.1 stock (by omega) (by omega)) (ev_bind (total_ev l (by omega) (dist_small a.1)) (ev_ifn (by omega) ?_)))
  rw [w64 (x := l.sum * unit) (by omega) (by omega), w64 (x := l.sum * unit * stock) (by omega) (by omega), w64 (x := costR l o u stock + l.sum * unit * stock) (by omega) (by omega), w64 (x := stock + 1) (by omega) (by omega)]
  refine ev_ifp (by omega) ?_
  rw [e]
  exact orderUpTo_l0 l o u unit setup stock a hs0 (15 - stock).toNat (stock + 1) stock (by omega) (by omega) hs0 hs1

/-! within -/
theorem within_eq (a b c : Int) : impl_within.f a b c = some (decide (b ≤ a ∧ a ≤ c)) := by
  unfold impl_within.f
  by_cases h : a ≥ b
  · rw [if_pos h]; congr 1; rw [decide_eq_decide]; omega
  · rw [if_neg h]; congr 1; symm; rw [decide_eq_false_iff_not]; omega

/-! allWithin -/
theorem allWithin_l0 (l : List Int) (lo hi : Int) (i : Nat) (h1 : i ≤ l.length) (hl : l.length ≤ 2000000) :
    Ev (fun k => impl_allWithin.l0 k lo hi l (l.length : Int) (i : Int)) (decide (∀ x ∈ l.drop i, lo ≤ x ∧ x ≤ hi)) := by
  refine ev_succ ?_
  by_cases h : i < l.length
  · simp (disch := omega) only [impl_allWithin.l0, if_pos, within_eq, Option.bind_some, w64]
    rw [drop_rd l i h]
    by_cases c : lo ≤ rd l i ∧ rd l i ≤ hi
    · refine ev_ifp (by simpa using c) ?_
      refine ev_to (allWithin_l0 l lo hi (i + 1) (by omega) hl) ?_
      rw [decide_eq_decide]; simp [c]
    · refine ev_ifn (by simpa using c) (ev_now ?_)
      symm; rw [decide_eq_false_iff_not]; simp [c]
  · simp (disch := omega) only [impl_allWithin.l0, if_neg]
    exact ev_now (by simp [List.drop_eq_nil_of_le (show l.length ≤ i by omega)])
 termination_by l.length - i
theorem allWithin_ev (l : List Int) (lo hi : Int) (hl : l.length ≤ 2000000) : Ev (fun k => impl_allWithin.f k l lo hi) (decide (∀ x ∈ l, lo ≤ x ∧ x ≤ hi)) := by
  have h := allWithin_l0 l lo hi 0 (by omega) hl
  simpa [impl_allWithin.f] using h

/-! IsDistribution -/
theorem IsDistribution_ev (l : List Int) (hl : l.length ≤ 2000000) : Ev (fun k => impl_IsDistribution.f k l) (decide (Dist l)) := by
  unfold impl_IsDistribution.f
  simp only [within_eq, Option.bind_some]
  by_cases h1 : (1 : Int) ≤ l.length ∧ (l.length : Int) ≤ 16
  · refine ev_ifp (by simpa using h1) (ev_bind (allWithin_ev l 0 1000 hl) ?_)
    by_cases h2 : ∀ x ∈ l, 0 ≤ x ∧ x ≤ 1000
    · refine ev_ifp (by simpa using h2) (ev_bind (total_ev l (by omega) (fun x hx => by have := h2 x hx; omega)) (ev_now ?_))
      rw [decide_eq_decide]; unfold Dist
      exact ⟨fun h => ⟨by omega, h2, by omega⟩, fun h => by omega⟩
    · refine ev_ifn (by simpa using h2) (ev_now ?_)
      symm; rw [decide_eq_false_iff_not]; unfold Dist
      exact fun h => h2 h.2.1
  · refine ev_ifn (by simpa using h1) (ev_now ?_)
    symm; rw [decide_eq_false_iff_not]; unfold Dist
    exact fun h => h1 (by omega)

/-! areCharges -/
theorem areCharges_ev (l : List Int) (hl : l.length ≤ 2000000) : Ev (fun k => impl_areCharges.f k l) (decide (∀ x ∈ l, 0 ≤ x ∧ x ≤ 20)) := by
  unfold impl_areCharges.f
  exact ev_bind (allWithin_ev l 0 20 hl) (ev_now rfl)
theorem areCharges2_ev (o u : Int) : Ev (fun k => impl_areCharges.f k [o, u]) (decide (Chg o u)) := by
  refine ev_to (areCharges_ev [o, u] (by simp)) ?_
  rw [decide_eq_decide]; simp [Chg]

/-! isStart -/
theorem isStart_ev (l : List Int) (o u unit setup : Int) (hl : l.length ≤ 2000000) : Ev (fun k => impl_isStart.f k l o u unit setup) (decide (Asks l o u unit setup)) := by
  unfold impl_isStart.f
  refine ev_bind (IsDistribution_ev l hl) ?_
  simp only [within_eq, Option.bind_some]
  by_cases h : Dist l
  · refine ev_ifp (by simpa using h) (ev_bind (areCharges_ev [o, u, unit] (by simp)) ?_)
    by_cases c : ∀ x ∈ [o, u, unit], 0 ≤ x ∧ x ≤ 20
    · refine ev_ifp (by simpa using c) (ev_now ?_)
      rw [decide_eq_decide]
      simp only [List.mem_cons, List.not_mem_nil, or_false, forall_eq_or_imp, forall_eq] at c
      exact ⟨fun z => ⟨h, ⟨c.1, c.2.1⟩, c.2.2, z⟩, fun z => z.2.2.2⟩
    · refine ev_ifn (by simpa using c) (ev_now ?_)
      symm; rw [decide_eq_false_iff_not]
      refine fun z => c ?_
      simp only [List.mem_cons, List.not_mem_nil, or_false, forall_eq_or_imp, forall_eq]
      exact ⟨z.2.1.1, z.2.1.2, z.2.2.1⟩
  · refine ev_ifn (by simpa using h) (ev_now ?_)
    symm; rw [decide_eq_false_iff_not]; exact fun z => h z.1

/-! isOrder -/
theorem isOrder_eq (a : Int) : impl_isOrder.f a = some (decide (0 ≤ a ∧ a ≤ 15)) := by
  unfold impl_isOrder.f; rw [within_eq]; rfl

/-! OrderUpTo -/
def OrderUpToR (l : List Int) (o u unit setup stock : Int) : Int × Bool := if Asks l o u unit setup ∧ 0 ≤ stock ∧ stock ≤ 15 then (levelR l o u unit setup stock, true) else (0, false)
theorem OrderUpTo_ev (l : List Int) (o u unit setup stock : Int) (hl : l.length ≤ 2000000) : Ev (fun k => impl_OrderUpTo.f k l o u unit setup stock) (OrderUpToR l o u unit setup stock) := by
  unfold impl_OrderUpTo.f OrderUpToR
  refine ev_bind (isStart_ev l o u unit setup hl) ?_
  simp only [isOrder_eq, Option.bind_some]
  by_cases h : Asks l o u unit setup
  · refine ev_ifp (by simpa using h) ?_
    by_cases hq : 0 ≤ stock ∧ stock ≤ 15
    · rw [if_pos ⟨h, hq⟩]; exact ev_ifp (by simpa using hq) (ev_bind (orderUpTo_ev l o u unit setup stock h hq.1 hq.2) (ev_now rfl))
    · rw [if_neg (fun z => hq z.2)]; exact ev_ifn (by simpa using hq) (ev_now rfl)
  · rw [if_neg (fun z => h z.1)]; exact ev_ifn (by simpa using h) (ev_now rfl)

/-! l1In -/
theorem l1In_eq (a b c : Int) : spec_l1In.f a b c = some (decide (b ≤ a ∧ a ≤ c)) := by
  unfold spec_l1In.f
  by_cases h : a ≥ b
  · rw [if_pos h]; congr 1; rw [decide_eq_decide]; omega
  · rw [if_neg h]; congr 1; symm; rw [decide_eq_false_iff_not]; omega

/-! l2Row -/
theorem l2Row_l0 (l : List Int) (n hi : Int) (i : Nat) (h1 : i ≤ l.length) (hl : l.length ≤ 2000000) :
    Ev (fun k => spec_l2Row.l0 k l n hi (i : Int)) (decide ((∀ x ∈ l.drop i, 0 ≤ x ∧ x ≤ hi) ∧ (l.length : Int) = n)) := by
  refine ev_succ ?_
  by_cases h : i < l.length
  · simp (disch := omega) only [spec_l2Row.l0, if_pos, l1In_eq, Option.bind_some, w64]
    rw [drop_rd l i h]
    by_cases c : 0 ≤ rd l i ∧ rd l i ≤ hi
    · refine ev_ifp (by simpa using c) ?_
      refine ev_to (l2Row_l0 l n hi (i + 1) (by omega) hl) ?_
      rw [decide_eq_decide]; simp [c]
    · refine ev_ifn (by simpa using c) (ev_now ?_)
      symm; rw [decide_eq_false_iff_not]; simp [c]
  · simp (disch := omega) only [spec_l2Row.l0, if_neg]
    exact ev_now (by
      rw [List.drop_eq_nil_of_le (show l.length ≤ i by omega)]
      rw [Bool.eq_iff_iff]; simp)
 termination_by l.length - i
theorem l2Row_ev (l : List Int) (n hi : Int) (hl : l.length ≤ 2000000) : Ev (fun k => spec_l2Row.f k l n hi) (decide ((∀ x ∈ l, 0 ≤ x ∧ x ≤ hi) ∧ (l.length : Int) = n)) := by
  have h := l2Row_l0 l n hi 0 (by omega) hl
  simpa [spec_l2Row.f] using h

/-! l2Sum -/
theorem l2Sum_l0 (l : List Int) (i : Nat) (h1 : i ≤ l.length) (hl : l.length ≤ 2000) (hb : ∀ x ∈ l, 0 ≤ x ∧ x ≤ 1000000000) :
    Ev (fun k => spec_l2Sum.l0 k l (l.take i).sum (i : Int)) l.sum := by
  refine ev_succ ?_
  by_cases h : i < l.length
  · have a := sum_take_bound l i 1000000000 hb 2000 hl (by omega)
    have b := sum_take_bound l (i + 1) 1000000000 hb 2000 hl (by omega)
    rw [sum_take_succ l i h] at b
    simp (disch := omega) only [spec_l2Sum.l0, if_pos, w64]
    rw [← sum_take_succ l i h]
    exact l2Sum_l0 l (i + 1) (by omega) hl hb
  · simp (disch := omega) only [spec_l2Sum.l0, if_neg]
    exact ev_now (by rw [List.take_of_length_le (by omega)])
 termination_by l.length - i
theorem l2Sum_ev (l : List Int) (hl : l.length ≤ 2000) (hb : ∀ x ∈ l, 0 ≤ x ∧ x ≤ 1000000000) : Ev (fun k => spec_l2Sum.f k l) l.sum := by
  have h := l2Sum_l0 l 0 (by omega) hl hb
  simpa [spec_l2Sum.f] using h

/-! l5Total -/
theorem l5Total_ev (l : List Int) (hl : l.length ≤ 2000) (hb : ∀ x ∈ l, 0 ≤ x ∧ x ≤ 1000000000) : Ev (fun k => spec_l5Total.f k l) l.sum := by
  unfold spec_l5Total.f
  exact ev_bind (l2Sum_ev l hl hb) (ev_now rfl)

/-! l5Good -/
theorem l5Good_ev (l : List Int) (hl : l.length ≤ 2000000) : Ev (fun k => spec_l5Good.f k l) (decide (Dist l)) := by
  unfold spec_l5Good.f
  simp only [l1In_eq, Option.bind_some]
  by_cases h1 : (1 : Int) ≤ l.length ∧ (l.length : Int) ≤ 16
  · refine ev_ifp (by simpa using h1) (ev_bind (l2Row_ev l _ 1000 hl) ?_)
    by_cases h2 : ∀ x ∈ l, 0 ≤ x ∧ x ≤ 1000
    · refine ev_ifp (by simpa using h2) (ev_bind (l5Total_ev l (by omega) (fun x hx => by have := h2 x hx; omega)) (ev_now ?_))
      rw [decide_eq_decide]; unfold Dist
      exact ⟨fun h => ⟨by omega, h2, by omega⟩, fun h => by omega⟩
    · refine ev_ifn (by simpa using h2) (ev_now ?_)
      symm; rw [decide_eq_false_iff_not]; unfold Dist
      exact fun h => h2 h.2.1
  · refine ev_ifn (by simpa using h1) (ev_now ?_)
    symm; rw [decide_eq_false_iff_not]; unfold Dist
    exact fun h => h1 (by omega)

/-! l5Charges -/
theorem l5Charges_eq (o u : Int) : spec_l5Charges.f o u = some (decide (Chg o u)) := by
  unfold spec_l5Charges.f
  simp only [l1In_eq, Option.bind_some]
  by_cases h : 0 ≤ o ∧ o ≤ 20
  · rw [if_pos (by simpa using h)]; congr 1; rw [decide_eq_decide]; simp [Chg, h]
  · rw [if_neg (by simpa using h)]; congr 1; symm; rw [decide_eq_false_iff_not]; exact fun z => h z.1

/-! l5Asks -/
theorem l5Asks_ev (l : List Int) (o u unit setup : Int) (hl : l.length ≤ 2000000) : Ev (fun k => spec_l5Asks.f k l o u unit setup) (decide (Asks l o u unit setup)) := by
  unfold spec_l5Asks.f
  refine ev_bind (l5Good_ev l hl) ?_
  simp only [l5Charges_eq, l1In_eq, Option.bind_some]
  by_cases h : Dist l
  · refine ev_ifp (by simpa using h) ?_
    by_cases c : Chg o u
    · refine ev_ifp (by simpa using c) ?_
      by_cases e : 0 ≤ unit ∧ unit ≤ 20
      · refine ev_ifp (by simpa using e) (ev_now ?_)
        rw [decide_eq_decide]; exact ⟨fun z => ⟨h, c, e, z⟩, fun z => z.2.2.2⟩
      · refine ev_ifn (by simpa using e) (ev_now ?_)
        symm; rw [decide_eq_false_iff_not]; exact fun z => e z.2.2.1
    · refine ev_ifn (by simpa using c) (ev_now ?_)
      symm; rw [decide_eq_false_iff_not]; exact fun z => c z.2.1
  · refine ev_ifn (by simpa using h) (ev_now ?_)
    symm; rw [decide_eq_false_iff_not]; exact fun z => h z.1

/-! l1Most -/
theorem l1Most_eq (a b : Int) : spec_l1Most.f a b = some (mx a b) := by
  unfold spec_l1Most.f mx
  split <;> split <;> first | rfl | (congr 1; omega)

/-! l5Over -/
theorem l5Over_l0 (l : List Int) (h : Dist l) (q : Int) (h0 : 0 ≤ q) (h1 : q ≤ 100) (d : Nat) : ∀ i : Nat, i + d = l.length → Ev (fun k => spec_l5Over.l0 k l q (overAcc l q i) (i : Int)) (overR l q) := by
  have hl := h.1
  induction d with
  | zero =>
    intro i hi
    obtain rfl : i = l.length := by omega
    refine ev_succ ?_
    simp (disch := omega) only [spec_l5Over.l0, if_neg]
    exact ev_now rfl
  | succ d ih =>
    intro i hi
    have a := overAcc_bd h q h1 i (by omega)
    have b := over_term h q h1 i (by omega)
    refine ev_succ ?_
    simp only [spec_l5Over.l0, l1Most_eq, Option.bind_some]
    rw [w64 (x := q - (i : Int)) (by omega) (by omega), w64 (x := rd l (i : Int) * mx 0 (q - i)) (by omega) (by omega), w64 (x := overAcc l q i + rd l (i : Int) * mx 0 (q - i)) (by omega) (by omega), w64 (x := (i : Int) + 1) (by omega) (by omega)]
    exact ev_ifp (by omega) (ev_ifp (by omega) (ih (i + 1) (by omega)))
theorem l5Over_ev (l : List Int) (h : Dist l) (q : Int) (h0 : 0 ≤ q) (h1 : q ≤ 100) : Ev (fun k => spec_l5Over.f k l q) (overR l q) :=
  l5Over_l0 l h q h0 h1 l.length 0 (by omega)

/-! l5Short -/
theorem l5Short_l0 (l : List Int) (h : Dist l) (q : Int) (h0 : 0 ≤ q) (h1 : q ≤ 100) (d : Nat) : ∀ i : Nat, i + d = l.length → Ev (fun k => spec_l5Short.l0 k l q (shortAcc l q i) (i : Int)) (shortR l q) := by
  have hl := h.1
  induction d with
  | zero =>
    intro i hi
    obtain rfl : i = l.length := by omega
    refine ev_succ ?_
    simp (disch := omega) only [spec_l5Short.l0, if_neg]
    exact ev_now rfl
  | succ d ih =>
    intro i hi
    have a := shortAcc_bd h q h0 i (by omega)
    have b := short_term h q h0 i (by omega)
    refine ev_succ ?_
    simp only [spec_l5Short.l0, l1Most_eq, Option.bind_some]
    rw [w64 (x := (i : Int) - q) (by omega) (by omega), w64 (x := rd l (i : Int) * mx 0 (i - q)) (by omega) (by omega), w64 (x := shortAcc l q i + rd l (i : Int) * mx 0 (i - q)) (by omega) (by omega), w64 (x := (i : Int) + 1) (by omega) (by omega)]
    exact ev_ifp (by omega) (ev_ifp (by omega) (ih (i + 1) (by omega)))
theorem l5Short_ev (l : List Int) (h : Dist l) (q : Int) (h0 : 0 ≤ q) (h1 : q ≤ 100) : Ev (fun k => spec_l5Short.f k l q) (shortR l q) :=
  l5Short_l0 l h q h0 h1 l.length 0 (by omega)

/-! l5Cost -/
theorem l5Cost_ev (l : List Int) (h : Dist l) (o u : Int) (hc : Chg o u) (q : Int) (h0 : 0 ≤ q) (h1 : q ≤ 100) : Ev (fun k => spec_l5Cost.f k l o u q) (costR l o u q) := by
  have b := cost_parts h hc q h0 h1
  unfold spec_l5Cost.f
  refine ev_bind (l5Over_ev l h q h0 h1) (ev_bind (l5Short_ev l h q h0 h1) (ev_now ?_))
  rw [w64 (x := o * overR l q) (by omega) (by omega), w64 (x := u * shortR l q) (by omega) (by omega), w64 (by omega) (by omega)]; rfl

/-! l5Level -/
theorem l5Begun_ev (l : List Int) (o u unit setup stock : Int) (a : Asks l o u unit setup) (y : Int) (h0 : 0 ≤ y) (h1 : y ≤ 15) : Ev (fun k => spec_l5Begun.f k l o u unit setup stock y) (begunR l o u unit setup stock y) := by
  have hl := dist_len a.1
  obtain ⟨p1, p2, p3, p4⟩ := begun_parts a y h0 h1
  unfold spec_l5Begun.f begunR
  refine ev_bind (l5Cost_ev l a.1 o u a.2.1 y h0 (by omega)) (ev_bind (l5Total_ev l (by omega) (dist_small a.1)) ?_)
  rw [w64 (x := l.sum * unit) (by omega) (by omega), w64 (x := l.sum * unit * y) (by omega) (by omega), w64 (x := costR l o u y + l.sum * unit * y) (by omega) (by omega)]
  by_cases c : y > stock
  · refine ev_ifp c (ev_bind (l5Total_ev l (by omega) (dist_small a.1)) (ev_now ?_))
    rw [if_pos c, w64 (x := l.sum * setup) (by omega) (by omega), w64 (by omega) (by omega)]
  · refine ev_ifn c (ev_now ?_)
    rw [if_neg c]; omega
theorem l5Level_l0 (l : List Int) (o u unit setup stock : Int) (a : Asks l o u unit setup) (hs0 : 0 ≤ stock) (d : Nat) : ∀ (y b : Int), stock < y → y + d = 16 → 0 ≤ b → b ≤ 15 →
    Ev (fun k => spec_l5Level.l0 k l o u unit setup stock b y) (lvlGo (begunR l o u unit setup stock) d y b) := by
  induction d with
  | zero =>
    intro y b h0 h1 hb0 hb1
    refine ev_succ ?_
    simp only [spec_l5Level.l0]
    exact ev_ifn (by omega) (ev_now rfl)
  | succ d ih =>
    intro y b h0 h1 hb0 hb1
    refine ev_succ ?_
    simp only [spec_l5Level.l0]
    refine ev_ifp (by omega) (ev_bind (l5Begun_ev l o u unit setup stock a y (by omega) (by omega)) (ev_bind (l5Begun_ev l o u unit setup stock a b hb0 hb1) ?_))
    rw [w64 (x := y + 1) (by omega) (by omega)]
    unfold lvlGo
    by_cases c : begunR l o u unit setup stock y < begunR l o u unit setup stock b
    · rw [if_pos c]; exact ev_ifp c (ih (y + 1) y (by omega) (by omega) (by omega) (by omega))
    · rw [if_neg c]; exact ev_ifn c (ih (y + 1) b (by omega) (by omega) hb0 hb1)
theorem l5Level_ev (l : List Int) (o u unit setup stock : Int) (a : Asks l o u unit setup) (hs0 : 0 ≤ stock) (hs1 : stock ≤ 15) : Ev (fun k => spec_l5Level.f k l o u unit setup stock) (levelR l o u unit setup stock) := by
  unfold spec_l5Level.f
  rw [w64 (x := stock + 1) (by omega) (by omega)]
  exact l5Level_l0 l o u unit setup stock a hs0 (15 - stock).toNat (stock + 1) stock (by omega) (by omega) hs0 hs1

/-! spec_OrderUpTo -/
theorem spec_OrderUpTo_ev (l : List Int) (o u unit setup stock : Int) (hl : l.length ≤ 2000000) : Ev (fun k => spec_OrderUpTo.f k l o u unit setup stock) (OrderUpToR l o u unit setup stock) := by
  unfold spec_OrderUpTo.f OrderUpToR
  refine ev_bind (l5Asks_ev l o u unit setup hl) ?_
  simp only [l1In_eq, Option.bind_some]
  by_cases h : Asks l o u unit setup
  · refine ev_ifp (by simpa using h) ?_
    by_cases hq : 0 ≤ stock ∧ stock ≤ 15
    · rw [if_pos ⟨h, hq⟩]; exact ev_ifp (by simpa using hq) (ev_bind (l5Level_ev l o u unit setup stock h hq.1 hq.2) (ev_now rfl))
    · rw [if_neg (fun z => hq z.2)]; exact ev_ifn (by simpa using hq) (ev_now rfl)
  · rw [if_neg (fun z => h z.1)]; exact ev_ifn (by simpa using h) (ev_now rfl)

/-! LAW FnExactOrderUpTo -/
theorem FnExactOrderUpTo : laws_FnExactOrderUpTo.Pure := by
  intro l0 a1 a2 a3 a4 a5 _ _ _ _ _ _ _ _
  refine Ev.rounds ?_
  unfold laws_FnExactOrderUpTo.f
  by_cases h0 : (l0.length : Int) > 1048576
  · exact ev_ifp h0 (ev_now rfl)
  refine ev_ifn h0 ?_
  have hl0 : l0.length ≤ 2000000 := by omega
  have hs := spec_OrderUpTo_ev l0 a1 a2 a3 a4 a5 hl0
  have hi := OrderUpTo_ev l0 a1 a2 a3 a4 a5 hl0
  repeat (first
    | exact ev_now rfl
    | refine ev_bind hs ?_
    | refine ev_bind hi ?_
    | (refine ev_bind (toIntS_ev _ ?_) ?_; first | assumption | omega)
    | (refine ev_bind (eqIntS_ev _ ?_) ?_; first | assumption | omega)
    | (refine ev_ifp ?_ ?_; first | rfl | omega | focus (simp; done))
    | (refine ev_ifn ?_ ?_; first | omega | focus (simp; done))
    | (refine ev_succ ?_; simp only [laws_FnExactOrderUpTo.j0]))

end Go.Proofs.Ytdphfhjlbjkdgaa.Pure
