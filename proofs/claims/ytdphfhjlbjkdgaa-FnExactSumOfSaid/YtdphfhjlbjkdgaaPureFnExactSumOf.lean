/- The pure statement of the law FnExactSumOf: what the program's function answers is what the reference answers, for all arguments of the kinds of its parameters. -/
import Derived.Test.YtdphfhjlbjkdgaaPFnExactSumOfx4
import Derived.Test.YtdphfhjlbjkdgaaBase
namespace Go.Proofs.Ytdphfhjlbjkdgaa.Pure
set_option linter.unusedSimpArgs false
open Go.RowKit Go.Proofs.Ytdphfhjlbjkdgaa.PFnExactSumOf Go.Proofs.YtdphfhjlbjkdgaaW.PrintWords Go.Proofs.YtdphfhjlbjkdgaaW.PrintLast Go.Proofs.Ytdphfhjlbjkdgaa.Base

/-! toIntS -/
theorem toIntS_l0 (l acc : List Int) (i : Nat) (hi : i ≤ l.length) (hl : l.length ≤ 2000000) (ha : acc.length = l.length) (hg : ∀ j, j < i → acc[j]? = l[j]?) :
    Ev (fun k => laws_toIntS.l0 k l acc (i : Int)) l := by
  refine ev_succ ?_
  by_cases h : i < l.length
  · simp (disch := omega) only [laws_toIntS.l0, if_pos, w64, Int.toNat_natCast]
    refine toIntS_l0 l (acc.set i (rd l i)) (i + 1) (by omega) hl (by simpa using ha) (fun j hj => ?_)
    rw [set_get _ _ _ _ (by omega)]
    by_cases e : j = i
    · subst e; rw [if_pos rfl, get_rd l j h]
    · rw [if_neg e]; exact hg j (by omega)
  · simp (disch := omega) only [laws_toIntS.l0, if_neg]
    exact ev_now (eq_of_get ha fun j hj => hg j (by omega))
 termination_by l.length - i
theorem toIntS_ev (l : List Int) (hl : l.length ≤ 2000000) : Ev (fun k => laws_toIntS.f k l) l := by
  simp (disch := omega) only [laws_toIntS.f, if_pos, Int.toNat_natCast]
  exact toIntS_l0 l _ 0 (by omega) hl (by simp) (fun j hj => by omega)

/-! eqIntS -/
theorem eqIntS_l0 (l : List Int) (i : Nat) (hi : i ≤ l.length) (hl : l.length ≤ 2000000) : Ev (fun k => laws_eqIntS.l0 k l l (i : Int)) true := by
  refine ev_succ ?_
  by_cases h : i < l.length
  · simp (disch := omega) only [laws_eqIntS.l0, if_pos, w64]
    exact eqIntS_l0 l (i + 1) (by omega) hl
  · simp (disch := omega) only [laws_eqIntS.l0, if_neg]
    exact ev_now rfl
 termination_by l.length - i
theorem eqIntS_ev (l : List Int) (hl : l.length ≤ 2000000) : Ev (fun k => laws_eqIntS.f k l l) true := by
  simp (disch := omega) only [laws_eqIntS.f, if_pos]
  exact eqIntS_l0 l 0 (by omega) hl

/-! markIntS -/
theorem markIntS_l0 (l : List Int) (m : Int) (i : Nat) (acc : List Int) (hm : 0 ≤ m) (hm2 : m ≤ 100000000) (hi : i ≤ l.length) (hl : l.length ≤ 2000000) (ha : acc.length = l.length) (hg : ∀ j, j < i → acc[j]? = (up m l.length)[j]?) :
    Ev (fun k => laws_markIntS.l0 k acc (m + i) (i : Int)) (m + l.length, up m l.length) := by
  refine ev_succ ?_
  by_cases h : i < l.length
  · simp (disch := omega) only [laws_markIntS.l0, if_pos, w64, Int.toNat_natCast]
    rw [show m + (i : Int) + 1 = m + ((i + 1 : Nat) : Int) by omega, show (i : Int) + 1 = ((i + 1 : Nat) : Int) by omega]
    refine markIntS_l0 l m (i + 1) (acc.set i (m + i)) hm hm2 (by omega) hl (by simpa using ha) (fun j hj => ?_)
    rw [set_get _ _ _ _ (by omega)]
    by_cases e : j = i
    · subst e; rw [if_pos rfl, up_get m _ _ h]
    · rw [if_neg e]; exact hg j (by omega)
  · simp (disch := omega) only [laws_markIntS.l0, if_neg]
    obtain rfl : i = l.length := by omega
    exact ev_now (by rw [eq_of_get (m := up m l.length) (by rw [up_length, ha]) (fun j hj => hg j (by omega))])
 termination_by l.length - i
theorem markIntS_ev (l : List Int) (m : Int) (hm : 0 ≤ m) (hm2 : m ≤ 100000000) (hl : l.length ≤ 2000000) : Ev (fun k => laws_markIntS.f k l m) (m + l.length, up m l.length) := by
  have h := markIntS_l0 l m 0 l hm hm2 (by omega) hl rfl (fun j hj => by omega)
  simpa [laws_markIntS.f] using h

/-! heldIntS -/
theorem heldIntS_l0 (n : Nat) (m : Int) (i : Nat) (hm : 0 ≤ m) (hm2 : m ≤ 100000000) (hi : i ≤ n) (hl : n ≤ 2000000) :
    Ev (fun k => laws_heldIntS.l0 k (up m n) (m + i) (i : Int)) (m + n) := by
  refine ev_succ ?_
  by_cases h : i < n
  · simp (disch := omega) only [laws_heldIntS.l0, up_length, if_pos, w64, up_rd m n i h]
    rw [show m + (i : Int) + 1 = m + ((i + 1 : Nat) : Int) by omega, show (i : Int) + 1 = ((i + 1 : Nat) : Int) by omega]
    exact heldIntS_l0 n m (i + 1) hm hm2 (by omega) hl
  · simp (disch := omega) only [laws_heldIntS.l0, up_length, if_neg]
    obtain rfl : i = n := by omega
    exact ev_now rfl
 termination_by n - i
theorem heldIntS_ev (n : Nat) (m : Int) (hm : 0 ≤ m) (hm2 : m ≤ 100000000) (hl : n ≤ 2000000) : Ev (fun k => laws_heldIntS.f k (up m n) m) (m + n) := by
  have h := heldIntS_l0 n m 0 hm hm2 (by omega) hl
  simpa [laws_heldIntS.f] using h

/-! Dist -/
/-- A list of numbers that is a distribution. -/
def Dist (l : List Int) : Prop := (1 ≤ l.length ∧ l.length ≤ 16) ∧ (∀ x ∈ l, 0 ≤ x ∧ x ≤ 1000) ∧ 0 < l.sum
instance (l : List Int) : Decidable (Dist l) := by unfold Dist; infer_instance

/-! convo -/
def convIn (b : List Int) (i : Nat) (ai : Int) : Nat → Nat → List Int → List Int
  | 0, _, x => x
  | d + 1, j, x => convIn b i ai d (j + 1) (x.set (i + j) (wrap64 (rd x ((i + j : Nat) : Int) + wrap64 (ai * rd b (j : Int)))))
def convOut (a b : List Int) : Nat → Nat → List Int → List Int
  | 0, _, x => x
  | d + 1, i, x => convOut a b d (i + 1) (convIn b i (rd a (i : Int)) b.length 0 x)
theorem convIn_len (b : List Int) (i : Nat) (ai : Int) (d : Nat) : ∀ j x, (convIn b i ai d j x).length = x.length := by
  induction d with
  | zero => intro j x; rfl
  | succ d ih => intro j x; simp [convIn, ih]
theorem convOut_len (a b : List Int) (d : Nat) : ∀ i x, (convOut a b d i x).length = x.length := by
  induction d with
  | zero => intro j x; rfl
  | succ d ih => intro j x; simp [convOut, ih, convIn_len]
def conv (a b : List Int) : List Int := convOut a b a.length 0 (List.replicate (a.length + b.length - 1) 0)
def SumOfR (a b : List Int) : List Int × Bool := if (Dist a ∧ Dist b) ∧ Dist (conv a b) then (conv a b, true) else ([], false)
theorem SumOfR_len (a b : List Int) : (SumOfR a b).1.length ≤ 2000 := by
  unfold SumOfR
  split
  · rename_i h
    have := h.2.1
    show (conv a b).length ≤ 2000
    omega
  · simp

/-! within -/
theorem within_eq (a b c : Int) : impl_within.f a b c = some (decide (b ≤ a ∧ a ≤ c)) := by
  unfold impl_within.f
  by_cases h : a ≥ b
  · rw [if_pos h]; congr 1; rw [decide_eq_decide]; omega
  · rw [if_neg h]; congr 1; symm; rw [decide_eq_false_iff_not]; omega

/-! allWithin -/
theorem allWithin_l0 (l : List Int) (lo hi : Int) (i : Nat) (h1 : i ≤ l.length) (hl : l.length ≤ 2000000) :
    Ev (fun k => impl_allWithin.l0 k lo hi l (l.length : Int) (i : Int)) (decide (∀ x ∈ l.drop i, lo ≤ x ∧ x ≤ hi)) := by
  refine ev_succ ?_
  by_cases h : i < l.length
  · simp (disch := omega) only [impl_allWithin.l0, if_pos, within_eq, Option.bind_some, w64]
    rw [drop_rd l i h]
    by_cases c : lo ≤ rd l i ∧ rd l i ≤ hi
    · refine ev_ifp (by simpa using c) ?_
      refine ev_to (allWithin_l0 l lo hi (i + 1) (by omega) hl) ?_
      rw [decide_eq_decide]; simp [c]
    · refine ev_ifn (by simpa using c) (ev_now ?_)
      symm; rw [decide_eq_false_iff_not]; simp [c]
  · simp (disch := omega) only [impl_allWithin.l0, if_neg]
    exact ev_now (by simp [List.drop_eq_nil_of_le (show l.length ≤ i by omega)])
 termination_by l.length - i
theorem allWithin_ev (l : List Int) (lo hi : Int) (hl : l.length ≤ 2000000) : Ev (fun k => impl_allWithin.f k l lo hi) (decide (∀ x ∈ l, lo ≤ x ∧ x ≤ hi)) := by
  have h := allWithin_l0 l lo hi 0 (by omega) hl
  simpa [impl_allWithin.f] using h

/-! total -/
theorem total_l0 (l : List Int) (i : Nat) (h1 : i ≤ l.length) (hl : l.length ≤ 2000) (hb : ∀ x ∈ l, 0 ≤ x ∧ x ≤ 1000000000) :
    Ev (fun k => impl_total.l0 k (l.take i).sum l (l.length : Int) (i : Int)) l.sum := by
  refine ev_succ ?_
  by_cases h : i < l.length
  · have a := sum_take_bound l i 1000000000 hb 2000 hl (by omega)
    have b := sum_take_bound l (i + 1) 1000000000 hb 2000 hl (by omega)
    rw [sum_take_succ l i h] at b
    simp (disch := omega) only [impl_total.l0, if_pos, w64]
    rw [← sum_take_succ l i h]
    exact total_l0 l (i + 1) (by omega) hl hb
  · simp (disch := omega) only [impl_total.l0, if_neg]
    exact ev_now (by rw [List.take_of_length_le (by omega)])
 termination_by l.length - i
theorem total_ev (l : List Int) (hl : l.length ≤ 2000) (hb : ∀ x ∈ l, 0 ≤ x ∧ x ≤ 1000000000) : Ev (fun k => impl_total.f k l) l.sum := by
  have h := total_l0 l 0 (by omega) hl hb
  simpa [impl_total.f] using h

/-! IsDistribution -/
theorem IsDistribution_ev (l : List Int) (hl : l.length ≤ 2000000) : Ev (fun k => impl_IsDistribution.f k l) (decide (Dist l)) := by
  unfold impl_IsDistribution.f
  simp only [within_eq, Option.bind_some]
  by_cases h1 : (1 : Int) ≤ l.length ∧ (l.length : Int) ≤ 16
  · refine ev_ifp (by simpa using h1) (ev_bind (allWithin_ev l 0 1000 hl) ?_)
    by_cases h2 : ∀ x ∈ l, 0 ≤ x ∧ x ≤ 1000
    · refine ev_ifp (by simpa using h2) (ev_bind (total_ev l (by omega) (fun x hx => by have := h2 x hx; omega)) (ev_now ?_))
      rw [decide_eq_decide]; unfold Dist
      exact ⟨fun h => ⟨by omega, h2, by omega⟩, fun h => by omega⟩
    · refine ev_ifn (by simpa using h2) (ev_now ?_)
      symm; rw [decide_eq_false_iff_not]; unfold Dist
      exact fun h => h2 h.2.1
  · refine ev_ifn (by simpa using h1) (ev_now ?_)
    symm; rw [decide_eq_false_iff_not]; unfold Dist
    exact fun h => h1 (by omega)

/-! SumOf -/
theorem SumOf_l1 (a b : List Int) (i : Nat) (hi : i < a.length) (ha : Dist a) (hb : Dist b) (r : List Int × Bool) (d : Nat) : ∀ (j : Nat) (x : List Int), j + d = b.length → x.length = a.length + b.length - 1 →
    Ev (fun k => impl_SumOf.l0 k b (convIn b i (rd a (i : Int)) d j x) a (a.length : Int) ((i + 1 : Nat) : Int)) r →
    Ev (fun k => impl_SumOf.l1 k b x (i : Int) (rd a (i : Int)) a (a.length : Int) (i : Int) b (b.length : Int) (j : Int)) r := by
  have la := ha.1
  have lb := hb.1
  induction d with
  | zero =>
    intro j x hj hx hn
    refine ev_succ ?_
    simp (disch := omega) only [impl_SumOf.l1, if_neg, w64]
    exact hn
  | succ d ih =>
    intro j x hj hx hn
    refine ev_succ ?_
    simp (disch := omega) only [impl_SumOf.l1, if_pos, w64, Int.toNat_natCast, show ((i : Int) + (j : Int)) = ((i + j : Nat) : Int) by omega]
    exact ih (j + 1) _ (by omega) (by simpa using hx) hn
theorem SumOf_l0 (a b : List Int) (ha : Dist a) (hb : Dist b) (d : Nat) : ∀ (i : Nat) (x : List Int), i + d = a.length → x.length = a.length + b.length - 1 →
    Ev (fun k => impl_SumOf.l0 k b x a (a.length : Int) (i : Int)) (if Dist (convOut a b d i x) then (convOut a b d i x, true) else ([], false)) := by
  have la := ha.1
  have lb := hb.1
  induction d with
  | zero =>
    intro i x hi hx
    refine ev_succ ?_
    simp (disch := omega) only [impl_SumOf.l0, if_neg]
    refine ev_bind (IsDistribution_ev x (by omega)) ?_
    by_cases c : Dist x
    · rw [if_pos (show Dist (convOut a b 0 i x) from c)]; exact ev_ifp (by simpa using c) (ev_now rfl)
    · rw [if_neg (show ¬ Dist (convOut a b 0 i x) from c)]; exact ev_ifn (by simpa using c) (ev_now rfl)
  | succ d ih =>
    intro i x hi hx
    refine ev_succ ?_
    simp (disch := omega) only [impl_SumOf.l0, if_pos]
    refine SumOf_l1 a b i (by omega) ha hb _ b.length 0 x (by omega) hx ?_
    exact ih (i + 1) _ (by omega) (by rw [convIn_len, hx])
theorem SumOf_ev (a b : List Int) (hla : a.length ≤ 2000000) (hlb : b.length ≤ 2000000) : Ev (fun k => impl_SumOf.f k a b) (SumOfR a b) := by
  unfold impl_SumOf.f SumOfR
  refine ev_bind (IsDistribution_ev a hla) ?_
  by_cases ha : Dist a
  · refine ev_ifp (by simpa using ha) (ev_bind (IsDistribution_ev b hlb) (ev_succ ?_))
    simp only [impl_SumOf.j0]
    by_cases hb : Dist b
    · have la := ha.1
      have lb := hb.1
      have e : wrap64 (wrap64 ((a.length : Int) + (b.length : Int)) - 1) = ((a.length + b.length - 1 : Nat) : Int) := by
        rw [w64 (x := (a.length : Int) + (b.length : Int)) (by omega) (by omega), w64 (by omega) (by omega)]; omega
      refine ev_ifn (by simpa using hb) ?_
      rw [e]
      refine ev_ifp (by omega) (ev_ifp (by omega) ?_)
      rw [Int.toNat_natCast]
      refine ev_to (SumOf_l0 a b ha hb a.length 0 _ (by omega) (by simp)) ?_
      by_cases c : Dist (conv a b)
      · rw [if_pos (show Dist (convOut a b a.length 0 (List.replicate (a.length + b.length - 1) 0)) from c), if_pos (show (Dist a ∧ Dist b) ∧ Dist (conv a b) from ⟨⟨ha, hb⟩, c⟩)]; rfl
      · rw [if_neg (show ¬ Dist (convOut a b a.length 0 (List.replicate (a.length + b.length - 1) 0)) from c), if_neg (show ¬ ((Dist a ∧ Dist b) ∧ Dist (conv a b)) from fun z => c z.2)]
    · rw [if_neg (fun z => hb z.1.2)]; exact ev_ifp (by simpa using hb) (ev_now rfl)
  · rw [if_neg (fun z => ha z.1.1)]
    refine ev_ifn (by simpa using ha) (ev_succ ?_)
    simp only [impl_SumOf.j0]
    exact ev_ifp trivial (ev_now rfl)

/-! l1In -/
theorem l1In_eq (a b c : Int) : spec_l1In.f a b c = some (decide (b ≤ a ∧ a ≤ c)) := by
  unfold spec_l1In.f
  by_cases h : a ≥ b
  · rw [if_pos h]; congr 1; rw [decide_eq_decide]; omega
  · rw [if_neg h]; congr 1; symm; rw [decide_eq_false_iff_not]; omega

/-! l2Row -/
theorem l2Row_l0 (l : List Int) (n hi : Int) (i : Nat) (h1 : i ≤ l.length) (hl : l.length ≤ 2000000) :
    Ev (fun k => spec_l2Row.l0 k l n hi (i : Int)) (decide ((∀ x ∈ l.drop i, 0 ≤ x ∧ x ≤ hi) ∧ (l.length : Int) = n)) := by
  refine ev_succ ?_
  by_cases h : i < l.length
  · simp (disch := omega) only [spec_l2Row.l0, if_pos, l1In_eq, Option.bind_some, w64]
    rw [drop_rd l i h]
    by_cases c : 0 ≤ rd l i ∧ rd l i ≤ hi
    · refine ev_ifp (by simpa using c) ?_
      refine ev_to (l2Row_l0 l n hi (i + 1) (by omega) hl) ?_
      rw [decide_eq_decide]; simp [c]
    · refine ev_ifn (by simpa using c) (ev_now ?_)
      symm; rw [decide_eq_false_iff_not]; simp [c]
  · simp (disch := omega) only [spec_l2Row.l0, if_neg]
    exact ev_now (by
      rw [List.drop_eq_nil_of_le (show l.length ≤ i by omega)]
      rw [Bool.eq_iff_iff]; simp)
 termination_by l.length - i
theorem l2Row_ev (l : List Int) (n hi : Int) (hl : l.length ≤ 2000000) : Ev (fun k => spec_l2Row.f k l n hi) (decide ((∀ x ∈ l, 0 ≤ x ∧ x ≤ hi) ∧ (l.length : Int) = n)) := by
  have h := l2Row_l0 l n hi 0 (by omega) hl
  simpa [spec_l2Row.f] using h

/-! l2Sum -/
theorem l2Sum_l0 (l : List Int) (i : Nat) (h1 : i ≤ l.length) (hl : l.length ≤ 2000) (hb : ∀ x ∈ l, 0 ≤ x ∧ x ≤ 1000000000) :
    Ev (fun k => spec_l2Sum.l0 k l (l.take i).sum (i : Int)) l.sum := by
  refine ev_succ ?_
  by_cases h : i < l.length
  · have a := sum_take_bound l i 1000000000 hb 2000 hl (by omega)
    have b := sum_take_bound l (i + 1) 1000000000 hb 2000 hl (by omega)
    rw [sum_take_succ l i h] at b
    simp (disch := omega) only [spec_l2Sum.l0, if_pos, w64]
    rw [← sum_take_succ l i h]
    exact l2Sum_l0 l (i + 1) (by omega) hl hb
  · simp (disch := omega) only [spec_l2Sum.l0, if_neg]
    exact ev_now (by rw [List.take_of_length_le (by omega)])
 termination_by l.length - i
theorem l2Sum_ev (l : List Int) (hl : l.length ≤ 2000) (hb : ∀ x ∈ l, 0 ≤ x ∧ x ≤ 1000000000) : Ev (fun k => spec_l2Sum.f k l) l.sum := by
  have h := l2Sum_l0 l 0 (by omega) hl hb
  simpa [spec_l2Sum.f] using h
/-! l5Total -/
theorem l5Total_ev (l : List Int) (hl : l.length ≤ 2000) (hb : ∀ x ∈ l, 0 ≤ x ∧ x ≤ 1000000000) : Ev (fun k => spec_l5Total.f k l) l.sum := by
  unfold spec_l5Total.f
  exact ev_bind (l2Sum_ev l hl hb) (ev_now rfl)

/-! l5Good -/
theorem l5Good_ev (l : List Int) (hl : l.length ≤ 2000000) : Ev (fun k => spec_l5Good.f k l) (decide (Dist l)) := by
  unfold spec_l5Good.f
  simp only [l1In_eq, Option.bind_some]
  by_cases h1 : (1 : Int) ≤ l.length ∧ (l.length : Int) ≤ 16
  · refine ev_ifp (by simpa using h1) (ev_bind (l2Row_ev l _ 1000 hl) ?_)
    by_cases h2 : ∀ x ∈ l, 0 ≤ x ∧ x ≤ 1000
    · refine ev_ifp (by simpa using h2) (ev_bind (l5Total_ev l (by omega) (fun x hx => by have := h2 x hx; omega)) (ev_now ?_))
      rw [decide_eq_decide]; unfold Dist
      exact ⟨fun h => ⟨by omega, h2, by omega⟩, fun h => by omega⟩
    · refine ev_ifn (by simpa using h2) (ev_now ?_)
      symm; rw [decide_eq_false_iff_not]; unfold Dist
      exact fun h => h2 h.2.1
  · refine ev_ifn (by simpa using h1) (ev_now ?_)
    symm; rw [decide_eq_false_iff_not]; unfold Dist
    exact fun h => h1 (by omega)

/-! spec_SumOf -/
theorem spec_SumOf_l1 (a b : List Int) (i : Nat) (hi : i < a.length) (ha : Dist a) (hb : Dist b) (r : List Int × Bool) (d : Nat) : ∀ (j : Nat) (x : List Int), j + d = b.length → x.length = a.length + b.length - 1 →
    Ev (fun k => spec_SumOf.l0 k a b (convIn b i (rd a (i : Int)) d j x) ((i + 1 : Nat) : Int)) r →
    Ev (fun k => spec_SumOf.l1 k a b x (i : Int) (j : Int)) r := by
  have la := ha.1
  have lb := hb.1
  induction d with
  | zero =>
    intro j x hj hx hn
    refine ev_succ ?_
    simp (disch := omega) only [spec_SumOf.l1, if_neg, w64]
    exact hn
  | succ d ih =>
    intro j x hj hx hn
    refine ev_succ ?_
    simp (disch := omega) only [spec_SumOf.l1, if_pos, w64, Int.toNat_natCast, show ((i : Int) + (j : Int)) = ((i + j : Nat) : Int) by omega]
    exact ih (j + 1) _ (by omega) (by simpa using hx) hn
theorem spec_SumOf_l0 (a b : List Int) (ha : Dist a) (hb : Dist b) (d : Nat) : ∀ (i : Nat) (x : List Int), i + d = a.length → x.length = a.length + b.length - 1 →
    Ev (fun k => spec_SumOf.l0 k a b x (i : Int)) (if Dist (convOut a b d i x) then (convOut a b d i x, true) else ([], false)) := by
  have la := ha.1
  have lb := hb.1
  induction d with
  | zero =>
    intro i x hi hx
    refine ev_succ ?_
    simp (disch := omega) only [spec_SumOf.l0, if_neg]
    refine ev_bind (l5Good_ev x (by omega)) ?_
    by_cases c : Dist x
    · rw [if_pos (show Dist (convOut a b 0 i x) from c)]; exact ev_ifp (by simpa using c) (ev_now rfl)
    · rw [if_neg (show ¬ Dist (convOut a b 0 i x) from c)]; exact ev_ifn (by simpa using c) (ev_now rfl)
  | succ d ih =>
    intro i x hi hx
    refine ev_succ ?_
    simp (disch := omega) only [spec_SumOf.l0, if_pos]
    refine spec_SumOf_l1 a b i (by omega) ha hb _ b.length 0 x (by omega) hx ?_
    exact ih (i + 1) _ (by omega) (by rw [convIn_len, hx])
theorem spec_SumOf_ev (a b : List Int) (hla : a.length ≤ 2000000) (hlb : b.length ≤ 2000000) : Ev (fun k => spec_SumOf.f k a b) (SumOfR a b) := by
  unfold spec_SumOf.f SumOfR
  refine ev_bind (l5Good_ev a hla) ?_
  by_cases ha : Dist a
  · refine ev_ifp (by simpa using ha) (ev_bind (l5Good_ev b hlb) (ev_succ ?_))
    simp only [spec_SumOf.j0]
    by_cases hb : Dist b
    · have la := ha.1
      have lb := hb.1
      have e : wrap64 (wrap64 ((a.length : Int) + (b.length : Int)) - 1) = ((a.length + b.length - 1 : Nat) : Int) := by
        rw [w64 (x := (a.length : Int) + (b.length : Int)) (by omega) (by omega), w64 (by omega) (by omega)]; omega
      refine ev_ifn (by simpa using hb) ?_
      rw [e]
      refine ev_ifp (by omega) (ev_ifp (by omega) ?_)
      rw [Int.toNat_natCast]
      refine ev_to (spec_SumOf_l0 a b ha hb a.length 0 _ (by omega) (by simp)) ?_
      by_cases c : Dist (conv a b)
      · rw [if_pos (show Dist (convOut a b a.length 0 (List.replicate (a.length + b.length - 1) 0)) from c), if_pos (show (Dist a ∧ Dist b) ∧ Dist (conv a b) from ⟨⟨ha, hb⟩, c⟩)]; rfl
      · rw [if_neg (show ¬ Dist (convOut a b a.length 0 (List.replicate (a.length + b.length - 1) 0)) from c), if_neg (show ¬ ((Dist a ∧ Dist b) ∧ Dist (conv a b)) from fun z => c z.2)]
    · rw [if_neg (fun z => hb z.1.2)]; exact ev_ifp (by simpa using hb) (ev_now rfl)
  · rw [if_neg (fun z => ha z.1.1)]
    refine ev_ifn (by simpa using ha) (ev_succ ?_)
    simp only [spec_SumOf.j0]
    exact ev_ifp trivial (ev_now rfl)

/-! LAW FnExactSumOf -/
theorem FnExactSumOf : laws_FnExactSumOf.Pure := by
  intro l0 l1 _ _ _ _ _ _
  refine Ev.rounds ?_
  unfold laws_FnExactSumOf.f
  by_cases h0 : (l0.length : Int) > 1048576
  · exact ev_ifp h0 (ev_now rfl)
  refine ev_ifn h0 ?_
  by_cases h1 : (l1.length : Int) > 1048576
  · exact ev_ifp h1 (ev_now rfl)
  refine ev_ifn h1 ?_
  have hl0 : l0.length ≤ 2000000 := by omega
  have hl1 : l1.length ≤ 2000000 := by omega
  have hs := spec_SumOf_ev l0 l1 hl0 hl1
  have hi := SumOf_ev l0 l1 hl0 hl1
  have hR := SumOfR_len l0 l1
  generalize SumOfR l0 l1 = R at hs hi hR
  repeat (first
    | exact ev_now rfl
    | refine ev_bind hs ?_
    | refine ev_bind hi ?_
    | (refine ev_bind (toIntS_ev _ ?_) ?_; first | assumption | omega)
    | (refine ev_bind (eqIntS_ev _ ?_) ?_; first | assumption | omega)
    | (refine ev_bind (markIntS_ev _ _ ?_ ?_ ?_) ?_; omega; omega; first | assumption | omega)
    | (refine ev_bind (heldIntS_ev _ _ ?_ ?_ ?_) ?_; omega; omega; first | assumption | omega)
    | (refine ev_ifp ?_ ?_; first | rfl | omega | focus (simp; done))
    | (refine ev_ifn ?_ ?_; first | omega | focus (simp; done))
    | (refine ev_succ ?_; simp only [laws_FnExactSumOf.j0])
    | (refine ev_succ ?_; simp only [laws_FnExactSumOf.j1])
    | (refine ev_succ ?_; simp only [laws_FnExactSumOf.j2]))

end Go.Proofs.Ytdphfhjlbjkdgaa.Pure
