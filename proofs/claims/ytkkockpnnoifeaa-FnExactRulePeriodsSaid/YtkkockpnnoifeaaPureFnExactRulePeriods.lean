/- The pure statement of the law FnExactRulePeriods: what the program's function answers is what the reference answers, for all arguments of the kinds of its parameters. -/
import Derived.Test.YtkkockpnnoifeaaQFnExactRulePeriodsx9
import Derived.Test.YtkkockpnnoifeaaBase
namespace Go.Proofs.Ytkkockpnnoifeaa.Pure
set_option linter.unusedSimpArgs false
open Go.RowKit Go.Proofs.Ytkkockpnnoifeaa.PFnExactRulePeriods Go.Proofs.YtkkockpnnoifeaaW.PrintWords Go.Proofs.YtkkockpnnoifeaaW.PrintLast Go.Proofs.Ytkkockpnnoifeaa.Base

/-! szIntS -/
theorem szIntS_eq (l : List Int) (a : Int) (h : l.length ≤ maxLen) (h0 : 0 ≤ a) (h1 : a ≤ 1048576) : laws_szIntS.f l a = some (if a < l.length then -1 else a - l.length) := by
  unfold maxLen at h
  unfold laws_szIntS.f
  rw [w64 (by omega) (by omega)]
  by_cases c : a < l.length
  · rw [if_pos c, if_pos (by omega)]
  · rw [if_neg c, if_neg (by omega)]

/-! szCase -/
/-- Either the case is too large, and the law says nothing, or its four lists are short. -/
theorem szCase_eq (n s u h : List Int) (hn : n.length ≤ maxLen) (hs : s.length ≤ maxLen) (hu : u.length ≤ maxLen) (hh : h.length ≤ maxLen) (a : Int) (h0 : 0 ≤ a) (h1 : a ≤ 1048576) :
    laws_szCase.f n s u h a = some (-1) ∨ (laws_szCase.f n s u h a = some (a - n.length - s.length - u.length - h.length) ∧ (n.length : Int) + s.length + u.length + h.length ≤ a) := by
  unfold laws_szCase.f
  rw [szIntS_eq n a hn h0 h1]
  by_cases c1 : a < n.length
  · left; rw [if_pos c1]; rfl
  rw [if_neg c1, Option.bind_some, if_neg (by omega), szIntS_eq s _ hs (by omega) (by omega)]
  by_cases c2 : a - n.length < s.length
  · left; rw [if_pos c2]; rfl
  rw [if_neg c2, Option.bind_some, if_neg (by omega), szIntS_eq u _ hu (by omega) (by omega)]
  by_cases c3 : a - n.length - s.length < u.length
  · left; rw [if_pos c3]; rfl
  rw [if_neg c3, Option.bind_some, if_neg (by omega), szIntS_eq h _ hh (by omega) (by omega)]
  by_cases c4 : a - n.length - s.length - u.length < h.length
  · left; rw [if_pos c4]; rfl
  right
  rw [if_neg c4, Option.bind_some, if_neg (by omega)]
  exact ⟨rfl, by omega⟩

/-! toIntS -/
theorem toIntS_l0 (l acc : List Int) (i : Nat) (hi : i ≤ l.length) (hl : l.length ≤ 2000000) (ha : acc.length = l.length) (hg : ∀ j, j < i → acc[j]? = l[j]?) :
    Ev (fun k => laws_toIntS.l0 k l acc (i : Int)) l := by
  refine ev_succ ?_
  by_cases h : i < l.length
  · simp (disch := omega) only [laws_toIntS.l0, if_pos, w64, Int.toNat_natCast]
    refine toIntS_l0 l (acc.set i (rd l i)) (i + 1) (by omega) hl (by simpa using ha) (fun j hj => ?_)
    rw [set_get _ _ _ _ (by omega)]
    by_cases e : j = i
    · subst e; rw [if_pos rfl, get_rd l j h]
    · rw [if_neg e]; exact hg j (by omega)
  · simp (disch := omega) only [laws_toIntS.l0, if_neg]
    exact ev_now (eq_of_get ha fun j hj => hg j (by omega))
 termination_by l.length - i
theorem toIntS_ev (l : List Int) (hl : l.length ≤ 2000000) : Ev (fun k => laws_toIntS.f k l) l := by
  simp (disch := omega) only [laws_toIntS.f, if_pos, Int.toNat_natCast]
  exact toIntS_l0 l _ 0 (by omega) hl (by simp) (fun j hj => by omega)

/-! toCase -/
theorem toCase_ev (n s u h : List Int) (hn : n.length ≤ 2000000) (hs : s.length ≤ 2000000) (hu : u.length ≤ 2000000) (hh : h.length ≤ 2000000) : Ev (fun k => laws_toCase.f k n s u h) (n, s, u, h) := by
  unfold laws_toCase.f
  exact ev_bind (toIntS_ev n hn) (ev_bind (toIntS_ev s hs) (ev_bind (toIntS_ev u hu) (ev_bind (toIntS_ev h hh) (ev_now rfl))))

/-! eqIntS -/
theorem eqIntS_l0 (l : List Int) (i : Nat) (hi : i ≤ l.length) (hl : l.length ≤ 2000000) : Ev (fun k => laws_eqIntS.l0 k l l (i : Int)) true := by
  refine ev_succ ?_
  by_cases h : i < l.length
  · simp (disch := omega) only [laws_eqIntS.l0, if_pos, w64]
    exact eqIntS_l0 l (i + 1) (by omega) hl
  · simp (disch := omega) only [laws_eqIntS.l0, if_neg]
    exact ev_now rfl
 termination_by l.length - i
theorem eqIntS_ev (l : List Int) (hl : l.length ≤ 2000000) : Ev (fun k => laws_eqIntS.f k l l) true := by
  simp (disch := omega) only [laws_eqIntS.f, if_pos]
  exact eqIntS_l0 l 0 (by omega) hl

/-! eqCase -/
theorem eqCase_ev (n s u h : List Int) (hn : n.length ≤ 2000000) (hs : s.length ≤ 2000000) (hu : u.length ≤ 2000000) (hh : h.length ≤ 2000000) : Ev (fun k => laws_eqCase.f k n s u h n s u h) true := by
  unfold laws_eqCase.f
  exact ev_bind (eqIntS_ev n hn) (ev_ifp rfl (ev_bind (eqIntS_ev s hs) (ev_ifp rfl (ev_bind (eqIntS_ev u hu) (ev_ifp rfl (ev_bind (eqIntS_ev h hh) (ev_ifp rfl (ev_now rfl))))))))

/-! markIntS -/
theorem markIntS_l0 (l : List Int) (m : Int) (i : Nat) (acc : List Int) (hm : 0 ≤ m) (hm2 : m ≤ 100000000) (hi : i ≤ l.length) (hl : l.length ≤ 2000000) (ha : acc.length = l.length) (hg : ∀ j, j < i → acc[j]? = (up m l.length)[j]?) :
    Ev (fun k => laws_markIntS.l0 k acc (m + i) (i : Int)) (m + l.length, up m l.length) := by
  refine ev_succ ?_
  by_cases h : i < l.length
  · simp (disch := omega) only [laws_markIntS.l0, if_pos, w64, Int.toNat_natCast]
    rw [show m + (i : Int) + 1 = m + ((i + 1 : Nat) : Int) by omega, show (i : Int) + 1 = ((i + 1 : Nat) : Int) by omega]
    refine markIntS_l0 l m (i + 1) (acc.set i (m + i)) hm hm2 (by omega) hl (by simpa using ha) (fun j hj => ?_)
    rw [set_get _ _ _ _ (by omega)]
    by_cases e : j = i
    · subst e; rw [if_pos rfl, up_get m _ _ h]
    · rw [if_neg e]; exact hg j (by omega)
  · simp (disch := omega) only [laws_markIntS.l0, if_neg]
    obtain rfl : i = l.length := by omega
    exact ev_now (by rw [eq_of_get (m := up m l.length) (by rw [up_length, ha]) (fun j hj => hg j (by omega))])
 termination_by l.length - i
theorem markIntS_ev (l : List Int) (m : Int) (hm : 0 ≤ m) (hm2 : m ≤ 100000000) (hl : l.length ≤ 2000000) : Ev (fun k => laws_markIntS.f k l m) (m + l.length, up m l.length) := by
  have h := markIntS_l0 l m 0 l hm hm2 (by omega) hl rfl (fun j hj => by omega)
  simpa [laws_markIntS.f] using h

/-! markCase -/
theorem markCase_ev (n s u h : List Int) (m : Int) (h0 : 0 ≤ m) (h1 : m ≤ 10000000) (hn : n.length ≤ 2000000) (hs : s.length ≤ 2000000) (hu : u.length ≤ 2000000) (hh : h.length ≤ 2000000) :
    Ev (fun k => laws_markCase.f k n s u h m) (m + n.length + s.length + u.length + h.length, up m n.length, up (m + n.length) s.length, up (m + n.length + s.length) u.length, up (m + n.length + s.length + u.length) h.length) := by
  unfold laws_markCase.f
  exact ev_bind (markIntS_ev n m h0 (by omega) hn) (ev_bind (markIntS_ev s _ (by omega) (by omega) hs) (ev_bind (markIntS_ev u _ (by omega) (by omega) hu) (ev_bind (markIntS_ev h _ (by omega) (by omega) hh) (ev_now rfl))))

/-! heldIntS -/
theorem heldIntS_l0 (n : Nat) (m : Int) (i : Nat) (hm : 0 ≤ m) (hm2 : m ≤ 100000000) (hi : i ≤ n) (hl : n ≤ 2000000) :
    Ev (fun k => laws_heldIntS.l0 k (up m n) (m + i) (i : Int)) (m + n) := by
  refine ev_succ ?_
  by_cases h : i < n
  · simp (disch := omega) only [laws_heldIntS.l0, up_length, if_pos, w64, up_rd m n i h]
    rw [show m + (i : Int) + 1 = m + ((i + 1 : Nat) : Int) by omega, show (i : Int) + 1 = ((i + 1 : Nat) : Int) by omega]
    exact heldIntS_l0 n m (i + 1) hm hm2 (by omega) hl
  · simp (disch := omega) only [laws_heldIntS.l0, up_length, if_neg]
    obtain rfl : i = n := by omega
    exact ev_now rfl
 termination_by n - i
theorem heldIntS_ev (n : Nat) (m : Int) (hm : 0 ≤ m) (hm2 : m ≤ 100000000) (hl : n ≤ 2000000) : Ev (fun k => laws_heldIntS.f k (up m n) m) (m + n) := by
  have h := heldIntS_l0 n m 0 hm hm2 (by omega) hl
  simpa [laws_heldIntS.f] using h

/-! OkCase -/
/-- A valid case: needs, setups, units, holds. -/
def OkCase (n s u h : List Int) : Prop := (n.length ≤ 8 ∧ s.length = n.length ∧ u.length = n.length ∧ h.length = n.length) ∧ (∀ x ∈ n, 0 ≤ x ∧ x ≤ 20) ∧ (∀ x ∈ s, 0 ≤ x ∧ x ≤ 99) ∧ (∀ x ∈ u, 0 ≤ x ∧ x ≤ 9) ∧ (∀ x ∈ h, 0 ≤ x ∧ x ≤ 9)
instance (n s u h : List Int) : Decidable (OkCase n s u h) := by unfold OkCase; infer_instance

/-! okc -/
/-- The bounds of a valid case's numbers, place by place. -/
theorem okc_n {n s u h : List Int} (c : OkCase n s u h) (i : Nat) (hi : i < n.length) : 0 ≤ rd n (i : Int) ∧ rd n (i : Int) ≤ 20 := c.2.1 _ (rd_mem n i hi)
theorem okc_s {n s u h : List Int} (c : OkCase n s u h) (i : Nat) (hi : i < n.length) : 0 ≤ rd s (i : Int) ∧ rd s (i : Int) ≤ 99 := c.2.2.1 _ (rd_mem s i (by have := c.1; omega))
theorem okc_u {n s u h : List Int} (c : OkCase n s u h) (i : Nat) (hi : i < n.length) : 0 ≤ rd u (i : Int) ∧ rd u (i : Int) ≤ 9 := c.2.2.2.1 _ (rd_mem u i (by have := c.1; omega))
theorem okc_h {n s u h : List Int} (c : OkCase n s u h) (i : Nat) (hi : i < n.length) : 0 ≤ rd h (i : Int) ∧ rd h (i : Int) ≤ 9 := c.2.2.2.2 _ (rd_mem h i (by have := c.1; omega))

/-! seg -/
/-- The sum of the places i, .., j - 1 of a list. -/
def seg (l : List Int) (i j : Nat) : Int := ((l.take j).drop i).sum
theorem seg_self (l : List Int) (i : Nat) : seg l i i = 0 := by
  unfold seg; rw [List.drop_eq_nil_of_le (by rw [List.length_take]; omega)]; rfl
theorem seg_succ (l : List Int) (i j : Nat) (hij : i ≤ j) (hj : j < l.length) : seg l i (j + 1) = seg l i j + rd l (j : Int) := by
  unfold seg
  rw [take_succ_rd l j hj, List.drop_append_of_le_length (by rw [List.length_take]; omega), List.sum_append]; simp
theorem seg_bound (l : List Int) (i j : Nat) (m : Int) (h : ∀ x ∈ l, 0 ≤ x ∧ x ≤ m) (hl : l.length ≤ 8) (h0 : 0 ≤ m) : 0 ≤ seg l i j ∧ seg l i j ≤ m * 8 := by
  have hb := sum_bound ((l.take j).drop i) 0 m (fun x hx => h x (List.mem_of_mem_take (List.mem_of_mem_drop hx)))
  have hlen : (((l.take j).drop i).length : Int) ≤ 8 := by rw [List.length_drop, List.length_take]; omega
  have := Int.mul_le_mul_of_nonneg_left hlen h0
  unfold seg; omega
theorem seg_zero (l : List Int) (j : Nat) : seg l 0 j = (l.take j).sum := rfl

/-! ratesof -/
/-- The rate from a period to another one. -/
def rateR (u h : List Int) (i t : Nat) : Int := rd u (i : Int) + seg h i t
theorem rateR_bound {n s u h : List Int} (c : OkCase n s u h) (i t : Nat) (hi : i < n.length) : 0 ≤ rateR u h i t ∧ rateR u h i t ≤ 81 := by
  have a := okc_u c i hi
  have b := seg_bound h i t 9 c.2.2.2.2 (by have := c.1; omega) (by omega)
  unfold rateR; omega

/-! spanR -/
/-- The needs of d periods from i on, each times its rate from i. -/
def wgt (n u h : List Int) (i : Nat) : Nat → Int
  | 0 => 0
  | d + 1 => wgt n u h i d + rd n ((i + d : Nat) : Int) * rateR u h i (i + d)
/-- The span cost. -/
def spanR (n s u h : List Int) (i j : Nat) : Int := if seg n i j = 0 then 0 else rd s (i : Int) + wgt n u h i (j - i)
theorem mul_bd' {x y A B : Int} (hx : 0 ≤ x ∧ x ≤ A) (hy : 0 ≤ y ∧ y ≤ B) : 0 ≤ x * y ∧ x * y ≤ A * B :=
  ⟨Int.mul_nonneg hx.1 hy.1, Int.mul_le_mul hx.2 hy.2 hy.1 (by omega)⟩
theorem wgt_bound {n s u h : List Int} (c : OkCase n s u h) (i d : Nat) (hi : i + d ≤ n.length) : 0 ≤ wgt n u h i d ∧ wgt n u h i d ≤ 1620 * d := by
  induction d with
  | zero => simp [wgt]
  | succ d ih =>
    have a := ih (by omega)
    have b := mul_bd' (okc_n c (i + d) (by omega)) (rateR_bound c i (i + d) (by omega))
    simp only [wgt]; omega
theorem spanR_bound {n s u h : List Int} (c : OkCase n s u h) (i j : Nat) (hij : i < j) (hj : j ≤ n.length) : 0 ≤ spanR n s u h i j ∧ spanR n s u h i j ≤ 20000 := by
  have a := okc_s c i (by omega)
  have b := wgt_bound c i (j - i) (by omega)
  have l := c.1
  unfold spanR; split <;> omega

/-! ruleGood -/
/-- Is it good by a rule to have period j in the span from period i? -/
def ruleGood (n s u h : List Int) (rule : Int) (i j : Nat) : Bool :=
  if rule = 1 then decide (wrap64 (spanR n s u h i (j + 1) * wrap64 ((j : Int) - i)) ≤ wrap64 (spanR n s u h i j * wrap64 (wrap64 ((j : Int) + 1) - i)))
  else if rule = 2 then decide (wrap64 (spanR n s u h i (j + 1) * seg n i j) ≤ wrap64 (spanR n s u h i j * seg n i (j + 1)))
  else decide (wrap64 (wrap64 (spanR n s u h i (j + 1) - rd s (i : Int)) - wrap64 (rd u (i : Int) * seg n i (j + 1))) ≤ rd s (i : Int))
def ruleIn (n s u h : List Int) (rule : Int) (i : Nat) : Nat → Nat → Nat
  | 0, j => j
  | d + 1, j => if ruleGood n s u h rule i j = true then ruleIn n s u h rule i d (j + 1) else j
theorem ruleIn_le (n s u h : List Int) (rule : Int) (i d : Nat) : ∀ j, j ≤ ruleIn n s u h rule i d j ∧ ruleIn n s u h rule i d j ≤ j + d := by
  induction d with
  | zero => intro j; simp [ruleIn]
  | succ d ih =>
    intro j
    unfold ruleIn
    split
    · have := ih (j + 1); omega
    · omega
def ruleOut (n s u h : List Int) (rule : Int) : Nat → Nat → List Int → List Int
  | 0, _, acc => acc
  | f + 1, i, acc => if i < n.length then (if rd n (i : Int) = 0 then ruleOut n s u h rule f (i + 1) acc else ruleOut n s u h rule f (ruleIn n s u h rule i (n.length - (i + 1)) (i + 1)) (acc ++ [(i : Int)])) else acc
theorem ruleOut_len (n s u h : List Int) (rule : Int) (f : Nat) : ∀ i acc, (ruleOut n s u h rule f i acc).length ≤ acc.length + f := by
  induction f with
  | zero => intro i acc; simp [ruleOut]
  | succ f ih =>
    intro i acc
    unfold ruleOut
    split
    · split
      · have := ih (i + 1) acc; omega
      · have := ih (ruleIn n s u h rule i (n.length - (i + 1)) (i + 1)) (acc ++ [(i : Int)]); simp at this; omega
    · omega
def RulePeriodsR (n s u h : List Int) (rule : Int) : List Int × Bool := if OkCase n s u h ∧ 1 ≤ rule ∧ rule ≤ 3 then (ruleOut n s u h rule n.length 0 [], true) else ([], false)
theorem RulePeriodsR_len (n s u h : List Int) (rule : Int) : (RulePeriodsR n s u h rule).1.length ≤ 2000 := by
  unfold RulePeriodsR; split
  · rename_i c
    show (ruleOut n s u h rule n.length 0 []).length ≤ 2000
    have := ruleOut_len n s u h rule n.length 0 []
    have cl := c.1.1
    simp at this; omega
  · simp

/-! total -/
theorem total_l0 (l : List Int) (i : Nat) (h1 : i ≤ l.length) (hl : l.length ≤ 2000) (hb : ∀ x ∈ l, 0 ≤ x ∧ x ≤ 1000000000) :
    Ev (fun k => impl_total.l0 k (l.take i).sum l (l.length : Int) (i : Int)) l.sum := by
  refine ev_succ ?_
  by_cases h : i < l.length
  · have a := sum_take_bound l i 1000000000 hb 2000 hl (by omega)
    have b := sum_take_bound l (i + 1) 1000000000 hb 2000 hl (by omega)
    rw [sum_take_succ l i h] at b
    simp (disch := omega) only [impl_total.l0, if_pos, w64]
    rw [← sum_take_succ l i h]
    exact total_l0 l (i + 1) (by omega) hl hb
  · simp (disch := omega) only [impl_total.l0, if_neg]
    exact ev_now (by rw [List.take_of_length_le (by omega)])
 termination_by l.length - i
theorem total_ev (l : List Int) (hl : l.length ≤ 2000) (hb : ∀ x ∈ l, 0 ≤ x ∧ x ≤ 1000000000) : Ev (fun k => impl_total.f k l) l.sum := by
  have h := total_l0 l 0 (by omega) hl hb
  simpa [impl_total.f] using h

/-! Case_rate -/
theorem Case_rate_ev (n s u h : List Int) (c : OkCase n s u h) (i t : Nat) (hi : i < n.length) (hit : i ≤ t) (ht : t ≤ n.length) : Ev (fun k => impl_Case_rate.f k n s u h (i : Int) (t : Int)) (rateR u h i t) := by
  have hl := c.1
  have b := rateR_bound c i t hi
  unfold impl_Case_rate.f
  refine ev_ifp (by omega) (ev_ifp (by omega) (ev_ifp (by omega) (ev_ifp (by omega) ?_)))
  rw [Int.toNat_natCast, Int.toNat_natCast]
  refine ev_bind (total_ev _ (by rw [List.length_drop, List.length_take]; omega) (fun x hx => by have := c.2.2.2.2 x (List.mem_of_mem_take (List.mem_of_mem_drop hx)); omega)) (ev_now ?_)
  show wrap64 (rateR u h i t) = rateR u h i t
  exact w64 (by omega) (by omega)

/-! Case_span -/
theorem Case_span_l0 (n s u h : List Int) (c : OkCase n s u h) (i j : Nat) (hij : i < j) (hj : j ≤ n.length) (d : Nat) : ∀ e : Nat, i + e + d = j → Ev (fun k => impl_Case_span.l0 k (i : Int) (j : Int) (rd s (i : Int) + wgt n u h i e) ((i + e : Nat) : Int) n s u h) (rd s (i : Int) + wgt n u h i (j - i)) := by
  have hl := c.1
  induction d with
  | zero =>
    intro e he
    obtain rfl : e = j - i := by omega
    refine ev_succ ?_
    simp (disch := omega) only [impl_Case_span.l0, if_neg]
    exact ev_now rfl
  | succ d ih =>
    intro e he
    have a := okc_s c i (by omega)
    have b := wgt_bound c i e (by omega)
    have b2 := wgt_bound c i (e + 1) (by omega)
    have b3 := mul_bd' (okc_n c (i + e) (by omega)) (rateR_bound c i (i + e) (by omega))
    have w : wgt n u h i (e + 1) = wgt n u h i e + rd n ((i + e : Nat) : Int) * rateR u h i (i + e) := rfl
    refine ev_succ ?_
    simp only [impl_Case_span.l0]
    refine ev_ifp (by omega) (ev_ifp (by omega) (ev_ifp (by omega) (ev_bind (Case_rate_ev n s u h c i (i + e) (by omega) (by omega) (by omega)) ?_)))
    rw [w64 (x := rd n ((i + e : Nat) : Int) * rateR u h i (i + e)) (by omega) (by omega), w64 (x := ((i + e : Nat) : Int) + 1) (by omega) (by omega), w64 (by omega) (by omega), show rd s (i : Int) + wgt n u h i e + rd n ((i + e : Nat) : Int) * rateR u h i (i + e) = rd s (i : Int) + wgt n u h i (e + 1) by omega]
    exact ih (e + 1) (by omega)
theorem Case_span_ev (n s u h : List Int) (c : OkCase n s u h) (i j : Nat) (hij : i < j) (hj : j ≤ n.length) : Ev (fun k => impl_Case_span.f k n s u h (i : Int) (j : Int)) (spanR n s u h i j) := by
  have hl := c.1
  unfold impl_Case_span.f
  refine ev_ifp (by omega) (ev_ifp (by omega) (ev_ifp (by omega) ?_))
  rw [Int.toNat_natCast, Int.toNat_natCast]
  refine ev_bind (total_ev _ (by rw [List.length_drop, List.length_take]; omega) (fun x hx => by have := c.2.1 x (List.mem_of_mem_take (List.mem_of_mem_drop hx)); omega)) ?_
  unfold spanR
  by_cases z : seg n i j = 0
  · rw [if_pos z]; exact ev_ifp z (ev_now rfl)
  · rw [if_neg z]
    refine ev_ifn z (ev_ifp (by omega) ?_)
    have := Case_span_l0 n s u h c i j hij hj (j - i) 0 (by omega)
    simpa [wgt] using this

/-! isGood -/
theorem segTotal_ev (n s u h : List Int) (c : OkCase n s u h) (i j : Nat) : Ev (fun k => impl_total.f k ((n.take j).drop i)) (seg n i j) :=
  total_ev _ (by rw [List.length_drop, List.length_take]; have := c.1; omega) (fun x hx => by have := c.2.1 x (List.mem_of_mem_take (List.mem_of_mem_drop hx)); omega)
theorem isGood_ev (n s u h : List Int) (c : OkCase n s u h) (rule : Int) (i j : Nat) (hij : i < j) (hj : j < n.length) : Ev (fun k => impl_Case_isGood.f k n s u h rule (i : Int) (j : Int)) (ruleGood n s u h rule i j) := by
  have cl := c.1
  have e : wrap64 ((j : Int) + 1) = ((j + 1 : Nat) : Int) := by rw [w64 (by omega) (by omega)]; omega
  unfold impl_Case_isGood.f ruleGood
  rw [e, Int.toNat_natCast, Int.toNat_natCast, Int.toNat_natCast]
  refine ev_bind (Case_span_ev n s u h c i j hij (by omega)) (ev_bind (Case_span_ev n s u h c i (j + 1) (by omega) (by omega)) ?_)
  by_cases a : rule = 1
  · simp only [if_pos a]; exact ev_now rfl
  · simp only [if_neg a]
    by_cases b : rule = 2
    · simp only [if_pos b]
      exact ev_ifp (by omega) (ev_ifp (by omega) (ev_ifp (by omega) (ev_bind (segTotal_ev n s u h c i j) (ev_ifp (by omega) (ev_ifp (by omega) (ev_bind (segTotal_ev n s u h c i (j + 1)) (ev_now rfl)))))))
    · simp only [if_neg b]
      exact ev_ifp (by omega) (ev_ifp (by omega) (ev_ifp (by omega) (ev_ifp (by omega) (ev_ifp (by omega) (ev_bind (segTotal_ev n s u h c i (j + 1)) (ev_now rfl))))))

/-! within -/
theorem within_eq (a b c : Int) : impl_within.f a b c = some (decide (b ≤ a ∧ a ≤ c)) := by
  unfold impl_within.f
  by_cases h : a ≥ b
  · rw [if_pos h]; congr 1; rw [decide_eq_decide]; omega
  · rw [if_neg h]; congr 1; symm; rw [decide_eq_false_iff_not]; omega

/-! allWithin -/
theorem allWithin_l0 (l : List Int) (lo hi : Int) (i : Nat) (h1 : i ≤ l.length) (hl : l.length ≤ 2000000) :
    Ev (fun k => impl_allWithin.l0 k lo hi l (l.length : Int) (i : Int)) (decide (∀ x ∈ l.drop i, lo ≤ x ∧ x ≤ hi)) := by
  refine ev_succ ?_
  by_cases h : i < l.length
  · simp (disch := omega) only [impl_allWithin.l0, if_pos, within_eq, Option.bind_some, w64]
    rw [drop_rd l i h]
    by_cases c : lo ≤ rd l i ∧ rd l i ≤ hi
    · refine ev_ifp (by simpa using c) ?_
      refine ev_to (allWithin_l0 l lo hi (i + 1) (by omega) hl) ?_
      rw [decide_eq_decide]; simp [c]
    · refine ev_ifn (by simpa using c) (ev_now ?_)
      symm; rw [decide_eq_false_iff_not]; simp [c]
  · simp (disch := omega) only [impl_allWithin.l0, if_neg]
    exact ev_now (by simp [List.drop_eq_nil_of_le (show l.length ≤ i by omega)])
 termination_by l.length - i
theorem allWithin_ev (l : List Int) (lo hi : Int) (hl : l.length ≤ 2000000) : Ev (fun k => impl_allWithin.f k l lo hi) (decide (∀ x ∈ l, lo ≤ x ∧ x ≤ hi)) := by
  have h := allWithin_l0 l lo hi 0 (by omega) hl
  simpa [impl_allWithin.f] using h

/-! IsCase -/
theorem IsCase_ev (n s u h : List Int) (hn : n.length ≤ 2000000) (hs : s.length ≤ 2000000) (hu : u.length ≤ 2000000) (hh : h.length ≤ 2000000) : Ev (fun k => impl_IsCase.f k n s u h) (decide (OkCase n s u h)) := by
  unfold impl_IsCase.f
  by_cases c : n.length ≤ 8 ∧ s.length = n.length ∧ u.length = n.length ∧ h.length = n.length
  · refine ev_ifp (by omega) (ev_ifp (by omega) (ev_ifp (by omega) (ev_ifp (by omega) (ev_bind (allWithin_ev n 0 20 hn) ?_))))
    by_cases c1 : ∀ x ∈ n, 0 ≤ x ∧ x ≤ 20
    · refine ev_ifp (by simpa using c1) (ev_bind (allWithin_ev s 0 99 hs) ?_)
      by_cases c2 : ∀ x ∈ s, 0 ≤ x ∧ x ≤ 99
      · refine ev_ifp (by simpa using c2) (ev_bind (allWithin_ev u 0 9 hu) ?_)
        by_cases c3 : ∀ x ∈ u, 0 ≤ x ∧ x ≤ 9
        · refine ev_ifp (by simpa using c3) (ev_bind (allWithin_ev h 0 9 hh) (ev_now ?_))
          rw [decide_eq_decide]
          exact ⟨fun z => ⟨c, c1, c2, c3, z⟩, fun z => z.2.2.2.2⟩
        · refine ev_ifn (by simpa using c3) (ev_now ?_)
          symm; rw [decide_eq_false_iff_not]; exact fun z => c3 z.2.2.2.1
      · refine ev_ifn (by simpa using c2) (ev_now ?_)
        symm; rw [decide_eq_false_iff_not]; exact fun z => c2 z.2.2.1
    · refine ev_ifn (by simpa using c1) (ev_now ?_)
      symm; rw [decide_eq_false_iff_not]; exact fun z => c1 z.2.1
  · have hf : decide (OkCase n s u h) = false := by rw [decide_eq_false_iff_not]; exact fun z => c z.1
    rw [hf]
    by_cases a : (n.length : Int) ≤ 8
    · refine ev_ifp a ?_
      by_cases b : (s.length : Int) = n.length
      · refine ev_ifp b ?_
        by_cases d : (u.length : Int) = n.length
        · exact ev_ifp d (ev_ifn (fun e => c ⟨by omega, by omega, by omega, by omega⟩) (ev_now rfl))
        · exact ev_ifn d (ev_now rfl)
      · exact ev_ifn b (ev_now rfl)
    · exact ev_ifn a (ev_now rfl)

/-! RulePeriods -/
theorem byRule_l1 (n s u h : List Int) (c : OkCase n s u h) (rule : Int) (i : Nat) (acc r : List Int) (d : Nat) : ∀ j : Nat, i < j → j + d = n.length →
    Ev (fun k => impl_Case_byRule.l0 k rule acc (n.length : Int) ((ruleIn n s u h rule i d j : Nat) : Int) n s u h) r →
    Ev (fun k => impl_Case_byRule.l1 k rule acc (n.length : Int) (i : Int) (j : Int) n s u h) r := by
  have cl := c.1
  induction d with
  | zero =>
    intro j hij hj hn
    refine ev_succ ?_
    simp only [impl_Case_byRule.l1]
    exact ev_ifn (by omega) hn
  | succ d ih =>
    intro j hij hj hn
    refine ev_succ ?_
    simp only [impl_Case_byRule.l1]
    refine ev_ifp (by omega) (ev_bind (isGood_ev n s u h c rule i j hij (by omega)) ?_)
    rw [w64 (x := (j : Int) + 1) (by omega) (by omega)]
    unfold ruleIn at hn
    by_cases g : ruleGood n s u h rule i j = true
    · rw [if_pos g] at hn; exact ev_ifp g (ih (j + 1) (by omega) (by omega) hn)
    · rw [if_neg g] at hn; exact ev_ifn g hn
theorem byRule_l0 (n s u h : List Int) (c : OkCase n s u h) (rule : Int) (f : Nat) : ∀ (i : Nat) (acc : List Int), n.length ≤ i + f → i ≤ n.length → acc.length ≤ i → Ev (fun k => impl_Case_byRule.l0 k rule acc (n.length : Int) (i : Int) n s u h) (ruleOut n s u h rule f i acc) := by
  have cl := c.1
  induction f with
  | zero =>
    intro i acc hi hin ha
    refine ev_succ ?_
    simp only [impl_Case_byRule.l0]
    exact ev_ifn (by omega) (ev_now rfl)
  | succ f ih =>
    intro i acc hi hin ha
    refine ev_succ ?_
    simp only [impl_Case_byRule.l0]
    unfold ruleOut
    by_cases a : i < n.length
    · rw [if_pos a]
      refine ev_ifp (by omega) (ev_ifp (by omega) (ev_ifp (by omega) ?_))
      rw [w64 (x := (i : Int) + 1) (by omega) (by omega)]
      by_cases b : rd n (i : Int) = 0
      · rw [if_pos b]; exact ev_ifp b (ih (i + 1) acc (by omega) (by omega) (by omega))
      · rw [if_neg b]
        have := ruleIn_le n s u h rule i (n.length - (i + 1)) (i + 1)
        exact ev_ifn b (ev_ifp (by omega) (byRule_l1 n s u h c rule i _ _ (n.length - (i + 1)) (i + 1) (by omega) (by omega) (ih _ _ (by omega) (by omega) (by simp; omega))))
    · rw [if_neg a]; exact ev_ifn (by omega) (ev_now rfl)
theorem RulePeriods_ev (n s u h : List Int) (rule : Int) (hn : n.length ≤ 2000000) (hs : s.length ≤ 2000000) (hu : u.length ≤ 2000000) (hh : h.length ≤ 2000000) : Ev (fun k => impl_RulePeriods.f k n s u h rule) (RulePeriodsR n s u h rule) := by
  unfold impl_RulePeriods.f RulePeriodsR
  refine ev_bind (IsCase_ev n s u h hn hs hu hh) ?_
  simp only [within_eq, Option.bind_some]
  by_cases c : OkCase n s u h
  · refine ev_ifp (by simpa using c) ?_
    by_cases a : 1 ≤ rule ∧ rule ≤ 3
    · rw [if_pos ⟨c, a⟩]; exact ev_ifp (by simpa using a) (ev_bind (byRule_l0 n s u h c rule n.length 0 [] (by omega) (by omega) (by simp)) (ev_now rfl))
    · rw [if_neg (fun z => a z.2)]; exact ev_ifn (by simpa using a) (ev_now rfl)
  · rw [if_neg (fun z => c z.1)]; exact ev_ifn (by simpa using c) (ev_now rfl)

/-! l3Rate -/
theorem l3Rate_l0 (n s u h : List Int) (c : OkCase n s u h) (i t : Nat) (hi : i < n.length) (ht : t ≤ n.length) (d : Nat) : ∀ j : Nat, i ≤ j → j + d = t → Ev (fun k => spec_l3Rate.l0 k (t : Int) (rateR u h i j) (j : Int) n s u h) (rateR u h i t) := by
  have hl := c.1
  induction d with
  | zero =>
    intro j hj he
    obtain rfl : j = t := by omega
    refine ev_succ ?_
    simp (disch := omega) only [spec_l3Rate.l0, if_neg]
    exact ev_now rfl
  | succ d ih =>
    intro j hj he
    have e : rateR u h i j + rd h (j : Int) = rateR u h i (j + 1) := by
      unfold rateR; rw [seg_succ h i j hj (by omega)]; omega
    have b := rateR_bound c i (j + 1) hi
    refine ev_succ ?_
    simp (disch := omega) only [spec_l3Rate.l0, if_pos, e, w64]
    exact ih (j + 1) (by omega) (by omega)
theorem l3Rate_ev (n s u h : List Int) (c : OkCase n s u h) (i t : Nat) (hi : i < n.length) (hit : i ≤ t) (ht : t ≤ n.length) : Ev (fun k => spec_l3Rate.f k n s u h (i : Int) (t : Int)) (rateR u h i t) := by
  have hl := c.1
  unfold spec_l3Rate.f
  refine ev_ifp (by omega) (ev_ifp (by omega) ?_)
  have := l3Rate_l0 n s u h c i t hi ht (t - i) i (Nat.le_refl _) (by omega)
  rwa [show rateR u h i i = rd u (i : Int) by unfold rateR; rw [seg_self]; omega] at this

/-! l3Span -/
theorem l3Span_l0 (n s u h : List Int) (c : OkCase n s u h) (i j : Nat) (hij : i < j) (hj : j ≤ n.length) (d : Nat) : ∀ (e : Nat) (b : Bool), i + e + d = j → b = decide (0 < seg n i (i + e)) → Ev (fun k => spec_l3Span.l0 k (i : Int) (j : Int) (wgt n u h i e) b ((i + e : Nat) : Int) n s u h) (spanR n s u h i j) := by
  have hl := c.1
  induction d with
  | zero =>
    intro e b he hb
    obtain rfl : e = j - i := by omega
    have sb := seg_bound n i j 20 c.2.1 (by omega) (by omega)
    rw [show i + (j - i) = j by omega] at hb
    refine ev_succ ?_
    simp (disch := omega) only [spec_l3Span.l0, if_neg]
    unfold spanR
    by_cases z : seg n i j = 0
    · rw [if_pos z]; exact ev_ifn (by rw [hb, decide_eq_true_iff]; omega) (ev_now rfl)
    · rw [if_neg z]
      have a := okc_s c i (by omega)
      have b2 := wgt_bound c i (j - i) (by omega)
      refine ev_ifp (by rw [hb, decide_eq_true_iff]; omega) (ev_ifp (by omega) (ev_ifp (by omega) (ev_now ?_)))
      rw [w64 (by omega) (by omega)]
  | succ d ih =>
    intro e b he hb
    have a := okc_s c i (by omega)
    have b1 := wgt_bound c i e (by omega)
    have b2 := wgt_bound c i (e + 1) (by omega)
    have b3 := mul_bd' (okc_n c (i + e) (by omega)) (rateR_bound c i (i + e) (by omega))
    have w : wgt n u h i (e + 1) = wgt n u h i e + rd n ((i + e : Nat) : Int) * rateR u h i (i + e) := rfl
    have sb := seg_bound n i (i + e) 20 c.2.1 (by omega) (by omega)
    have ss := seg_succ n i (i + e) (by omega) (by omega)
    have nb := okc_n c (i + e) (by omega)
    refine ev_succ ?_
    simp only [spec_l3Span.l0]
    refine ev_ifp (by omega) (ev_ifp (by omega) (ev_ifp (by omega) (ev_bind (l3Rate_ev n s u h c i (i + e) (by omega) (by omega) (by omega)) ?_)))
    rw [w64 (x := rd n ((i + e : Nat) : Int) * rateR u h i (i + e)) (by omega) (by omega), w64 (x := ((i + e : Nat) : Int) + 1) (by omega) (by omega), w64 (by omega) (by omega), ← w, show ((i + e : Nat) : Int) + 1 = ((i + (e + 1) : Nat) : Int) by omega]
    by_cases z : b = true
    · refine ev_ifp z (ih (e + 1) true (by omega) ?_)
      symm; rw [decide_eq_true_iff]; rw [z] at hb; have := of_decide_eq_true hb.symm; show 0 < seg n i (i + e + 1); omega
    · refine ev_ifn z (ih (e + 1) _ (by omega) ?_)
      rw [decide_eq_decide]
      have : ¬ 0 < seg n i (i + e) := fun q => z (by rw [hb]; exact decide_eq_true q)
      show _ ↔ 0 < seg n i (i + e + 1); omega
theorem l3Span_ev (n s u h : List Int) (c : OkCase n s u h) (i j : Nat) (hij : i < j) (hj : j ≤ n.length) : Ev (fun k => spec_l3Span.f k n s u h (i : Int) (j : Int)) (spanR n s u h i j) := by
  have := l3Span_l0 n s u h c i j hij hj (j - i) 0 false (by omega) (by symm; rw [decide_eq_false_iff_not]; simp [seg_self])
  simpa [spec_l3Span.f, wgt] using this

/-! l2Sum -/
theorem l2Sum_l0 (l : List Int) (i : Nat) (h1 : i ≤ l.length) (hl : l.length ≤ 2000) (hb : ∀ x ∈ l, 0 ≤ x ∧ x ≤ 1000000000) :
    Ev (fun k => spec_l2Sum.l0 k l (l.take i).sum (i : Int)) l.sum := by
  refine ev_succ ?_
  by_cases h : i < l.length
  · have a := sum_take_bound l i 1000000000 hb 2000 hl (by omega)
    have b := sum_take_bound l (i + 1) 1000000000 hb 2000 hl (by omega)
    rw [sum_take_succ l i h] at b
    simp (disch := omega) only [spec_l2Sum.l0, if_pos, w64]
    rw [← sum_take_succ l i h]
    exact l2Sum_l0 l (i + 1) (by omega) hl hb
  · simp (disch := omega) only [spec_l2Sum.l0, if_neg]
    exact ev_now (by rw [List.take_of_length_le (by omega)])
 termination_by l.length - i
theorem l2Sum_ev (l : List Int) (hl : l.length ≤ 2000) (hb : ∀ x ∈ l, 0 ≤ x ∧ x ≤ 1000000000) : Ev (fun k => spec_l2Sum.f k l) l.sum := by
  have h := l2Sum_l0 l 0 (by omega) hl hb
  simpa [spec_l2Sum.f] using h
/-! l3Over -/
theorem segSum_ev (n s u h : List Int) (c : OkCase n s u h) (i j : Nat) : Ev (fun k => spec_l2Sum.f k ((n.take j).drop i)) (seg n i j) :=
  l2Sum_ev _ (by rw [List.length_drop, List.length_take]; have := c.1; omega) (fun x hx => by have := c.2.1 x (List.mem_of_mem_take (List.mem_of_mem_drop hx)); omega)
theorem not_le_dec (a b : Int) : decide (a > b) = !decide (a ≤ b) := by
  by_cases h : a ≤ b
  · simp [h]
  · simp only [h, decide_false, Bool.not_false, decide_eq_true_iff]; omega
theorem l3Over_ev (n s u h : List Int) (c : OkCase n s u h) (rule : Int) (i j : Nat) (hij : i < j) (hj : j < n.length) : Ev (fun k => spec_l3Over.f k n s u h rule (i : Int) (j : Int)) (!ruleGood n s u h rule i j) := by
  have cl := c.1
  have e : wrap64 ((j : Int) + 1) = ((j + 1 : Nat) : Int) := by rw [w64 (by omega) (by omega)]; omega
  unfold spec_l3Over.f ruleGood
  rw [e, Int.toNat_natCast, Int.toNat_natCast, Int.toNat_natCast]
  refine ev_bind (l3Span_ev n s u h c i j hij (by omega)) (ev_bind (l3Span_ev n s u h c i (j + 1) (by omega) (by omega)) ?_)
  refine ev_ifp (by omega) (ev_ifp (by omega) (ev_ifp (by omega) (ev_bind (segSum_ev n s u h c i j) (ev_ifp (by omega) (ev_ifp (by omega) (ev_bind (segSum_ev n s u h c i (j + 1)) ?_))))))
  by_cases a : rule = 1
  · simp only [if_pos a]; exact ev_now (not_le_dec _ _)
  · simp only [if_neg a]
    by_cases b : rule = 2
    · simp only [if_pos b]; exact ev_now (not_le_dec _ _)
    · simp only [if_neg b]
      exact ev_ifp (by omega) (ev_ifp (by omega) (ev_now (not_le_dec _ _)))

/-! l1In -/
theorem l1In_eq (a b c : Int) : spec_l1In.f a b c = some (decide (b ≤ a ∧ a ≤ c)) := by
  unfold spec_l1In.f
  by_cases h : a ≥ b
  · rw [if_pos h]; congr 1; rw [decide_eq_decide]; omega
  · rw [if_neg h]; congr 1; symm; rw [decide_eq_false_iff_not]; omega

/-! l2Row -/
theorem l2Row_l0 (l : List Int) (n hi : Int) (i : Nat) (h1 : i ≤ l.length) (hl : l.length ≤ 2000000) :
    Ev (fun k => spec_l2Row.l0 k l n hi (i : Int)) (decide ((∀ x ∈ l.drop i, 0 ≤ x ∧ x ≤ hi) ∧ (l.length : Int) = n)) := by
  refine ev_succ ?_
  by_cases h : i < l.length
  · simp (disch := omega) only [spec_l2Row.l0, if_pos, l1In_eq, Option.bind_some, w64]
    rw [drop_rd l i h]
    by_cases c : 0 ≤ rd l i ∧ rd l i ≤ hi
    · refine ev_ifp (by simpa using c) ?_
      refine ev_to (l2Row_l0 l n hi (i + 1) (by omega) hl) ?_
      rw [decide_eq_decide]; simp [c]
    · refine ev_ifn (by simpa using c) (ev_now ?_)
      symm; rw [decide_eq_false_iff_not]; simp [c]
  · simp (disch := omega) only [spec_l2Row.l0, if_neg]
    exact ev_now (by
      rw [List.drop_eq_nil_of_le (show l.length ≤ i by omega)]
      rw [Bool.eq_iff_iff]; simp)
 termination_by l.length - i
theorem l2Row_ev (l : List Int) (n hi : Int) (hl : l.length ≤ 2000000) : Ev (fun k => spec_l2Row.f k l n hi) (decide ((∀ x ∈ l, 0 ≤ x ∧ x ≤ hi) ∧ (l.length : Int) = n)) := by
  have h := l2Row_l0 l n hi 0 (by omega) hl
  simpa [spec_l2Row.f] using h

/-! l2Good -/
theorem l2Good_ev (n s u h : List Int) (hn : n.length ≤ 2000000) (hs : s.length ≤ 2000000) (hu : u.length ≤ 2000000) (hh : h.length ≤ 2000000) : Ev (fun k => spec_l2Good.f k n s u h) (decide (OkCase n s u h)) := by
  unfold spec_l2Good.f
  by_cases c : (n.length : Int) ≤ 8
  · refine ev_ifp c (ev_bind (l2Row_ev n _ 20 hn) ?_)
    by_cases c1 : ∀ x ∈ n, 0 ≤ x ∧ x ≤ 20
    · refine ev_ifp (by simpa using c1) (ev_bind (l2Row_ev s _ 99 hs) ?_)
      by_cases c2 : (∀ x ∈ s, 0 ≤ x ∧ x ≤ 99) ∧ (s.length : Int) = n.length
      · refine ev_ifp (by rw [decide_eq_true_iff]; exact c2) (ev_bind (l2Row_ev u _ 9 hu) ?_)
        by_cases c3 : (∀ x ∈ u, 0 ≤ x ∧ x ≤ 9) ∧ (u.length : Int) = n.length
        · refine ev_ifp (by rw [decide_eq_true_iff]; exact c3) (ev_bind (l2Row_ev h _ 9 hh) (ev_now ?_))
          rw [decide_eq_decide]
          exact ⟨fun z => ⟨⟨by omega, by omega, by omega, by omega⟩, c1, c2.1, c3.1, z.1⟩, fun z => ⟨z.2.2.2.2, by have := z.1.2.2.2; omega⟩⟩
        · refine ev_ifn (by rw [decide_eq_true_iff]; exact c3) (ev_now ?_)
          symm; rw [decide_eq_false_iff_not]; exact fun z => c3 ⟨z.2.2.2.1, by have := z.1.2.2.1; omega⟩
      · refine ev_ifn (by rw [decide_eq_true_iff]; exact c2) (ev_now ?_)
        symm; rw [decide_eq_false_iff_not]; exact fun z => c2 ⟨z.2.2.1, by have := z.1.2.1; omega⟩
    · refine ev_ifn (by simpa using c1) (ev_now ?_)
      symm; rw [decide_eq_false_iff_not]; exact fun z => c1 z.2.1
  · refine ev_ifn c (ev_now ?_)
    symm; rw [decide_eq_false_iff_not]; exact fun z => c (by have := z.1.1; omega)

/-! spec_RulePeriods -/
theorem l3Rule_l1 (n s u h : List Int) (c : OkCase n s u h) (rule : Int) (i : Nat) (acc r : List Int) (ha : acc.length ≤ 100) (d : Nat) : ∀ j : Nat, i < j → j + d = n.length →
    Ev (fun k => spec_l3Rule.l0 k rule (acc ++ [(i : Int)]) (n.length : Int) ((ruleIn n s u h rule i d j : Nat) : Int) n s u h) r →
    Ev (fun k => spec_l3Rule.l1 k rule acc (n.length : Int) (i : Int) (j : Int) n s u h) r := by
  have cl := c.1
  induction d with
  | zero =>
    intro j hij hj hn
    refine ev_succ ?_
    simp only [spec_l3Rule.l1]
    exact ev_ifn (by omega) (ev_ifp (by omega) hn)
  | succ d ih =>
    intro j hij hj hn
    refine ev_succ ?_
    simp only [spec_l3Rule.l1]
    refine ev_ifp (by omega) (ev_bind (l3Over_ev n s u h c rule i j hij (by omega)) ?_)
    rw [w64 (x := (j : Int) + 1) (by omega) (by omega)]
    unfold ruleIn at hn
    by_cases g : ruleGood n s u h rule i j = true
    · rw [if_pos g] at hn; exact ev_ifn (by simp [g]) (ih (j + 1) (by omega) (by omega) hn)
    · rw [if_neg g] at hn; exact ev_ifp (by simpa using g) (ev_ifp (by omega) hn)
theorem l3Rule_l0 (n s u h : List Int) (c : OkCase n s u h) (rule : Int) (f : Nat) : ∀ (i : Nat) (acc : List Int), n.length ≤ i + f → i ≤ n.length → acc.length ≤ i → Ev (fun k => spec_l3Rule.l0 k rule acc (n.length : Int) (i : Int) n s u h) (ruleOut n s u h rule f i acc) := by
  have cl := c.1
  induction f with
  | zero =>
    intro i acc hi hin ha
    refine ev_succ ?_
    simp only [spec_l3Rule.l0]
    exact ev_ifn (by omega) (ev_now rfl)
  | succ f ih =>
    intro i acc hi hin ha
    refine ev_succ ?_
    simp only [spec_l3Rule.l0]
    unfold ruleOut
    by_cases a : i < n.length
    · rw [if_pos a]
      refine ev_ifp (by omega) (ev_ifp (by omega) (ev_ifp (by omega) ?_))
      rw [w64 (x := (i : Int) + 1) (by omega) (by omega)]
      by_cases b : rd n (i : Int) = 0
      · rw [if_pos b]; exact ev_ifp b (ih (i + 1) acc (by omega) (by omega) (by omega))
      · rw [if_neg b]
        have := ruleIn_le n s u h rule i (n.length - (i + 1)) (i + 1)
        exact ev_ifn b (l3Rule_l1 n s u h c rule i acc _ (by omega) (n.length - (i + 1)) (i + 1) (by omega) (by omega) (ih _ _ (by omega) (by omega) (by simp; omega)))
    · rw [if_neg a]; exact ev_ifn (by omega) (ev_now rfl)
theorem spec_RulePeriods_ev (n s u h : List Int) (rule : Int) (hn : n.length ≤ 2000000) (hs : s.length ≤ 2000000) (hu : u.length ≤ 2000000) (hh : h.length ≤ 2000000) : Ev (fun k => spec_RulePeriods.f k n s u h rule) (RulePeriodsR n s u h rule) := by
  unfold spec_RulePeriods.f RulePeriodsR
  refine ev_bind (l2Good_ev n s u h hn hs hu hh) ?_
  simp only [l1In_eq, Option.bind_some]
  by_cases c : OkCase n s u h
  · refine ev_ifp (by simpa using c) ?_
    by_cases a : 1 ≤ rule ∧ rule ≤ 3
    · rw [if_pos ⟨c, a⟩]; exact ev_ifp (by simpa using a) (ev_bind (l3Rule_l0 n s u h c rule n.length 0 [] (by omega) (by omega) (by simp)) (ev_now rfl))
    · rw [if_neg (fun z => a z.2)]; exact ev_ifn (by simpa using a) (ev_now rfl)
  · rw [if_neg (fun z => c z.1)]; exact ev_ifn (by simpa using c) (ev_now rfl)

/-! LAW FnExactRulePeriods -/
theorem FnExactRulePeriods (n s u h : List Int) (a1 : Int) (mn : n.length ≤ maxLen) (ms : s.length ≤ maxLen) (mu : u.length ≤ maxLen) (mh : h.length ≤ maxLen) (_ : (Lit.int .i64 a1).wf = true) : ∃ k, laws_FnExactRulePeriods.f k n s u h a1 = some true := by
  refine Ev.rounds ?_
  unfold laws_FnExactRulePeriods.f
  rcases szCase_eq n s u h mn ms mu mh 1048576 (by omega) (by omega) with z | ⟨z, zl⟩
  · rw [z]; simp only [Option.bind_some]; exact ev_ifp (by omega) (ev_now rfl)
  rw [z]; simp only [Option.bind_some]
  refine ev_ifn (by omega) ?_
  clear z mn ms mu mh
  have hn : n.length ≤ 2000000 := by omega
  have hs_ : s.length ≤ 2000000 := by omega
  have hu : u.length ≤ 2000000 := by omega
  have hh : h.length ≤ 2000000 := by omega
  have hs := spec_RulePeriods_ev n s u h a1 hn hs_ hu hh
  have hi := RulePeriods_ev n s u h a1 hn hs_ hu hh
  have hR := RulePeriodsR_len n s u h a1
  generalize RulePeriodsR n s u h a1 = R at hs hi hR
  repeat (first
    | exact ev_now rfl
    | refine ev_bind hs ?_
    | refine ev_bind hi ?_
    | (refine ev_bind (toIntS_ev _ ?_) ?_; first | assumption | omega)
    | (refine ev_bind (eqIntS_ev _ ?_) ?_; first | assumption | omega)
    | (refine ev_bind (toCase_ev _ _ _ _ ?_ ?_ ?_ ?_) ?_; assumption; assumption; assumption; assumption)
    | (refine ev_bind (eqCase_ev _ _ _ _ ?_ ?_ ?_ ?_) ?_; assumption; assumption; assumption; assumption)
    | (refine ev_bind (markCase_ev _ _ _ _ _ ?_ ?_ ?_ ?_ ?_ ?_) ?_; omega; omega; assumption; assumption; assumption; assumption)
    | (refine ev_bind (markIntS_ev _ _ ?_ ?_ ?_) ?_; omega; omega; first | assumption | omega)
    | (refine ev_bind (heldIntS_ev _ _ ?_ ?_ ?_) ?_; omega; omega; first | assumption | omega)
    | (refine ev_ifp ?_ ?_; first | rfl | omega | focus (simp; done))
    | (refine ev_ifn ?_ ?_; first | omega | focus (simp; done))
    | (refine ev_succ ?_; simp only [laws_FnExactRulePeriods.j0])
    | (refine ev_succ ?_; simp only [laws_FnExactRulePeriods.j1])
    | (refine ev_succ ?_; simp only [laws_FnExactRulePeriods.j2]))


end Go.Proofs.Ytkkockpnnoifeaa.Pure
