/- The pure statement of the law FnExactLateCost: what the program's function answers is what the reference answers, for all arguments of the kinds of its parameters. -/
import Derived.Test.YtmlapbkejnollaaPFnExactLateCostx5
import Derived.Test.YtmlapbkejnollaaBase
namespace Go.Proofs.Ytmlapbkejnollaa.Pure
set_option linter.unusedSimpArgs false
open Go.RowKit Go.Proofs.Ytmlapbkejnollaa.PFnExactLateCost Go.Proofs.YtmlapbkejnollaaW.PrintWords Go.Proofs.YtmlapbkejnollaaW.PrintLast Go.Proofs.Ytmlapbkejnollaa.Base

/-! szIntS -/
theorem szIntS_eq (l : List Int) (a : Int) (h : l.length ≤ maxLen) (h0 : 0 ≤ a) (h1 : a ≤ 1048576) : laws_szIntS.f l a = some (if a < l.length then -1 else a - l.length) := by
  unfold maxLen at h
  unfold laws_szIntS.f
  rw [w64 (by omega) (by omega)]
  by_cases c : a < l.length
  · rw [if_pos c, if_pos (by omega)]
  · rw [if_neg c, if_neg (by omega)]

/-! szCase -/
/-- Either the case is too large, and the law says nothing, or its four lists are short. -/
theorem szCase_eq (n s u h : List Int) (hn : n.length ≤ maxLen) (hs : s.length ≤ maxLen) (hu : u.length ≤ maxLen) (hh : h.length ≤ maxLen) (a : Int) (h0 : 0 ≤ a) (h1 : a ≤ 1048576) :
    laws_szCase.f n s u h a = some (-1) ∨ (laws_szCase.f n s u h a = some (a - n.length - s.length - u.length - h.length) ∧ (n.length : Int) + s.length + u.length + h.length ≤ a) := by
  unfold laws_szCase.f
  rw [szIntS_eq n a hn h0 h1]
  by_cases c1 : a < n.length
  · left; rw [if_pos c1]; rfl
  rw [if_neg c1, Option.bind_some, if_neg (by omega), szIntS_eq s _ hs (by omega) (by omega)]
  by_cases c2 : a - n.length < s.length
  · left; rw [if_pos c2]; rfl
  rw [if_neg c2, Option.bind_some, if_neg (by omega), szIntS_eq u _ hu (by omega) (by omega)]
  by_cases c3 : a - n.length - s.length < u.length
  · left; rw [if_pos c3]; rfl
  rw [if_neg c3, Option.bind_some, if_neg (by omega), szIntS_eq h _ hh (by omega) (by omega)]
  by_cases c4 : a - n.length - s.length - u.length < h.length
  · left; rw [if_pos c4]; rfl
  right
  rw [if_neg c4, Option.bind_some, if_neg (by omega)]
  exact ⟨rfl, by omega⟩

/-! toIntS -/
theorem toIntS_l0 (l acc : List Int) (i : Nat) (hi : i ≤ l.length) (hl : l.length ≤ 2000000) (ha : acc.length = l.length) (hg : ∀ j, j < i → acc[j]? = l[j]?) :
    Ev (fun k => laws_toIntS.l0 k l acc (i : Int)) l := by
  refine ev_succ ?_
  by_cases h : i < l.length
  · simp (disch := omega) only [laws_toIntS.l0, if_pos, w64, Int.toNat_natCast]
    refine toIntS_l0 l (acc.set i (rd l i)) (i + 1) (by omega) hl (by simpa using ha) (fun j hj => ?_)
    rw [set_get _ _ _ _ (by omega)]
    by_cases e : j = i
    · subst e; rw [if_pos rfl, get_rd l j h]
    · rw [if_neg e]; exact hg j (by omega)
  · simp (disch := omega) only [laws_toIntS.l0, if_neg]
    exact ev_now (eq_of_get ha fun j hj => hg j (by omega))
 termination_by l.length - i
theorem toIntS_ev (l : List Int) (hl : l.length ≤ 2000000) : Ev (fun k => laws_toIntS.f k l) l := by
  simp (disch := omega) only [laws_toIntS.f, if_pos, Int.toNat_natCast]
  exact toIntS_l0 l _ 0 (by omega) hl (by simp) (fun j hj => by omega)

/-! toCase -/
theorem toCase_ev (n s u h : List Int) (hn : n.length ≤ 2000000) (hs : s.length ≤ 2000000) (hu : u.length ≤ 2000000) (hh : h.length ≤ 2000000) : Ev (fun k => laws_toCase.f k n s u h) (n, s, u, h) := by
  unfold laws_toCase.f
  exact ev_bind (toIntS_ev n hn) (ev_bind (toIntS_ev s hs) (ev_bind (toIntS_ev u hu) (ev_bind (toIntS_ev h hh) (ev_now rfl))))

/-! eqIntS -/
theorem eqIntS_l0 (l : List Int) (i : Nat) (hi : i ≤ l.length) (hl : l.length ≤ 2000000) : Ev (fun k => laws_eqIntS.l0 k l l (i : Int)) true := by
  refine ev_succ ?_
  by_cases h : i < l.length
  · simp (disch := omega) only [laws_eqIntS.l0, if_pos, w64]
    exact eqIntS_l0 l (i + 1) (by omega) hl
  · simp (disch := omega) only [laws_eqIntS.l0, if_neg]
    exact ev_now rfl
 termination_by l.length - i
theorem eqIntS_ev (l : List Int) (hl : l.length ≤ 2000000) : Ev (fun k => laws_eqIntS.f k l l) true := by
  simp (disch := omega) only [laws_eqIntS.f, if_pos]
  exact eqIntS_l0 l 0 (by omega) hl

/-! eqCase -/
theorem eqCase_ev (n s u h : List Int) (hn : n.length ≤ 2000000) (hs : s.length ≤ 2000000) (hu : u.length ≤ 2000000) (hh : h.length ≤ 2000000) : Ev (fun k => laws_eqCase.f k n s u h n s u h) true := by
  unfold laws_eqCase.f
  exact ev_bind (eqIntS_ev n hn) (ev_ifp rfl (ev_bind (eqIntS_ev s hs) (ev_ifp rfl (ev_bind (eqIntS_ev u hu) (ev_ifp rfl (ev_bind (eqIntS_ev h hh) (ev_ifp rfl (ev_now rfl))))))))

/-! OkCase -/
/-- A valid case: needs, setups, units, holds. -/
def OkCase (n s u h : List Int) : Prop := (n.length ≤ 8 ∧ s.length = n.length ∧ u.length = n.length ∧ h.length = n.length) ∧ (∀ x ∈ n, 0 ≤ x ∧ x ≤ 20) ∧ (∀ x ∈ s, 0 ≤ x ∧ x ≤ 99) ∧ (∀ x ∈ u, 0 ≤ x ∧ x ≤ 9) ∧ (∀ x ∈ h, 0 ≤ x ∧ x ≤ 9)
instance (n s u h : List Int) : Decidable (OkCase n s u h) := by unfold OkCase; infer_instance

/-! okc -/
/-- The bounds of a valid case's numbers, place by place. -/
theorem okc_n {n s u h : List Int} (c : OkCase n s u h) (i : Nat) (hi : i < n.length) : 0 ≤ rd n (i : Int) ∧ rd n (i : Int) ≤ 20 := c.2.1 _ (rd_mem n i hi)
theorem okc_s {n s u h : List Int} (c : OkCase n s u h) (i : Nat) (hi : i < n.length) : 0 ≤ rd s (i : Int) ∧ rd s (i : Int) ≤ 99 := c.2.2.1 _ (rd_mem s i (by have := c.1; omega))
theorem okc_u {n s u h : List Int} (c : OkCase n s u h) (i : Nat) (hi : i < n.length) : 0 ≤ rd u (i : Int) ∧ rd u (i : Int) ≤ 9 := c.2.2.2.1 _ (rd_mem u i (by have := c.1; omega))
theorem okc_h {n s u h : List Int} (c : OkCase n s u h) (i : Nat) (hi : i < n.length) : 0 ≤ rd h (i : Int) ∧ rd h (i : Int) ≤ 9 := c.2.2.2.2 _ (rd_mem h i (by have := c.1; omega))

/-! seg -/
/-- The sum of the places i, .., j - 1 of a list. -/
def seg (l : List Int) (i j : Nat) : Int := ((l.take j).drop i).sum
theorem seg_self (l : List Int) (i : Nat) : seg l i i = 0 := by
  unfold seg; rw [List.drop_eq_nil_of_le (by rw [List.length_take]; omega)]; rfl
theorem seg_succ (l : List Int) (i j : Nat) (hij : i ≤ j) (hj : j < l.length) : seg l i (j + 1) = seg l i j + rd l (j : Int) := by
  unfold seg
  rw [take_succ_rd l j hj, List.drop_append_of_le_length (by rw [List.length_take]; omega), List.sum_append]; simp
theorem seg_bound (l : List Int) (i j : Nat) (m : Int) (h : ∀ x ∈ l, 0 ≤ x ∧ x ≤ m) (hl : l.length ≤ 8) (h0 : 0 ≤ m) : 0 ≤ seg l i j ∧ seg l i j ≤ m * 8 := by
  have hb := sum_bound ((l.take j).drop i) 0 m (fun x hx => h x (List.mem_of_mem_take (List.mem_of_mem_drop hx)))
  have hlen : (((l.take j).drop i).length : Int) ≤ 8 := by rw [List.length_drop, List.length_take]; omega
  have := Int.mul_le_mul_of_nonneg_left hlen h0
  unfold seg; omega
theorem seg_zero (l : List Int) (j : Nat) : seg l 0 j = (l.take j).sum := rfl

/-! bal -/
/-- The balance of amounts and needs before period t. -/
def bal (p n : List Int) (t : Nat) : Int := (p.take t).sum - (n.take t).sum
theorem bal_zero (p n : List Int) : bal p n 0 = 0 := by simp [bal]
theorem bal_succ (p n : List Int) (t : Nat) (hp : t < p.length) (hn : t < n.length) : bal p n (t + 1) = bal p n t + rd p (t : Int) - rd n (t : Int) := by
  unfold bal; rw [sum_take_succ p t hp, sum_take_succ n t hn]; omega
theorem bal_bound (p n : List Int) (t : Nat) (hp : ∀ x ∈ p, 0 ≤ x ∧ x ≤ 160) (hn : ∀ x ∈ n, 0 ≤ x ∧ x ≤ 20) (lp : p.length ≤ 8) (ln : n.length ≤ 8) : -160 ≤ bal p n t ∧ bal p n t ≤ 1280 := by
  have a := sum_take_bound p t 160 hp 8 lp (by omega)
  have b := sum_take_bound n t 20 hn 8 ln (by omega)
  unfold bal; omega

/-! l1Most -/
theorem l1Most_eq (a b : Int) : spec_l1Most.f a b = some (mx a b) := by
  unfold spec_l1Most.f mx
  split <;> split <;> first | rfl | (congr 1; omega)

/-! lateR -/
/-- What an amount in a period costs that leaves a balance. -/
def lateR (s u h r : List Int) (t : Nat) (x b : Int) : Int := rd u (t : Int) * x + rd h (t : Int) * mx 0 b + rd r (t : Int) * mx 0 (-b) + if x > 0 then rd s (t : Int) else 0
theorem mx0 (x A : Int) (h : x ≤ A) (hA : 0 ≤ A) : 0 ≤ mx 0 x ∧ mx 0 x ≤ A := by
  unfold mx; split <;> omega
theorem mx_comm (a b : Int) : mx a b = mx b a := by
  unfold mx; split <;> split <;> omega
theorem late_parts {n s u h r : List Int} (c : OkCase n s u h) (hr : ∀ x ∈ r, 0 ≤ x ∧ x ≤ 9) (hl : r.length = n.length) (t : Nat) (ht : t < n.length) (x b : Int) (hx : 0 ≤ x ∧ x ≤ 100000) (hb : -100000 ≤ b ∧ b ≤ 100000) :
    (0 ≤ rd u (t : Int) * x ∧ rd u (t : Int) * x ≤ 9 * 100000) ∧ (0 ≤ rd h (t : Int) * mx 0 b ∧ rd h (t : Int) * mx 0 b ≤ 9 * 100000) ∧ (0 ≤ rd r (t : Int) * mx 0 (-b) ∧ rd r (t : Int) * mx 0 (-b) ≤ 9 * 100000) ∧ 0 ≤ rd s (t : Int) ∧ rd s (t : Int) ≤ 99 := by
  have bd : ∀ {x y A B : Int}, (0 ≤ x ∧ x ≤ A) → (0 ≤ y ∧ y ≤ B) → 0 ≤ x * y ∧ x * y ≤ A * B := fun hx hy => ⟨Int.mul_nonneg hx.1 hy.1, Int.mul_le_mul hx.2 hy.2 hy.1 (by omega)⟩
  exact ⟨bd (okc_u c t ht) hx, bd (okc_h c t ht) (mx0 b 100000 (by omega) (by omega)), bd (hr _ (rd_mem r t (by omega))) (mx0 (-b) 100000 (by omega) (by omega)), (okc_s c t ht).1, (okc_s c t ht).2⟩
theorem lateR_bound {n s u h r : List Int} (c : OkCase n s u h) (hr : ∀ x ∈ r, 0 ≤ x ∧ x ≤ 9) (hl : r.length = n.length) (t : Nat) (ht : t < n.length) (x b : Int) (hx : 0 ≤ x ∧ x ≤ 100000) (hb : -100000 ≤ b ∧ b ≤ 100000) : 0 ≤ lateR s u h r t x b ∧ lateR s u h r t x b ≤ 3000000 := by
  obtain ⟨p1, p2, p3, p4⟩ := late_parts c hr hl t ht x b hx hb
  unfold lateR; split <;> omega

/-! late -/
/-- A late plan of a case. -/
def LatePlan (n p : List Int) : Prop := p.length = n.length ∧ (∀ x ∈ p, 0 ≤ x ∧ x ≤ 160) ∧ p.sum = n.sum
instance (n p : List Int) : Decidable (LatePlan n p) := by unfold LatePlan; infer_instance

/-! limits -/
/-- Whole numbers, as many as the case has periods, of 0 .. m. -/
def Fits (n l : List Int) (m : Int) : Prop := (∀ x ∈ l, 0 ≤ x ∧ x ≤ m) ∧ (l.length : Int) = n.length
instance (n l : List Int) (m : Int) : Decidable (Fits n l m) := by unfold Fits; infer_instance

/-! lateCostGo -/
def lateCostGo (n s u h r p : List Int) : Nat → Nat → Int → Int × Bool
  | 0, _, cost => (cost, true)
  | d + 1, t, cost => lateCostGo n s u h r p d (t + 1) (wrap64 (cost + lateR s u h r t (rd p (t : Int)) (bal p n (t + 1))))
def LateCostR (n s u h r p : List Int) : Int × Bool := if (OkCase n s u h ∧ Fits n r 9) ∧ LatePlan n p then lateCostGo n s u h r p n.length 0 0 else (0, false)

/-! within -/
theorem within_eq (a b c : Int) : impl_within.f a b c = some (decide (b ≤ a ∧ a ≤ c)) := by
  unfold impl_within.f
  by_cases h : a ≥ b
  · rw [if_pos h]; congr 1; rw [decide_eq_decide]; omega
  · rw [if_neg h]; congr 1; symm; rw [decide_eq_false_iff_not]; omega

/-! allWithin -/
theorem allWithin_l0 (l : List Int) (lo hi : Int) (i : Nat) (h1 : i ≤ l.length) (hl : l.length ≤ 2000000) :
    Ev (fun k => impl_allWithin.l0 k lo hi l (l.length : Int) (i : Int)) (decide (∀ x ∈ l.drop i, lo ≤ x ∧ x ≤ hi)) := by
  refine ev_succ ?_
  by_cases h : i < l.length
  · simp (disch := omega) only [impl_allWithin.l0, if_pos, within_eq, Option.bind_some, w64]
    rw [drop_rd l i h]
    by_cases c : lo ≤ rd l i ∧ rd l i ≤ hi
    · refine ev_ifp (by simpa using c) ?_
      refine ev_to (allWithin_l0 l lo hi (i + 1) (by omega) hl) ?_
      rw [decide_eq_decide]; simp [c]
    · refine ev_ifn (by simpa using c) (ev_now ?_)
      symm; rw [decide_eq_false_iff_not]; simp [c]
  · simp (disch := omega) only [impl_allWithin.l0, if_neg]
    exact ev_now (by simp [List.drop_eq_nil_of_le (show l.length ≤ i by omega)])
 termination_by l.length - i
theorem allWithin_ev (l : List Int) (lo hi : Int) (hl : l.length ≤ 2000000) : Ev (fun k => impl_allWithin.f k l lo hi) (decide (∀ x ∈ l, lo ≤ x ∧ x ≤ hi)) := by
  have h := allWithin_l0 l lo hi 0 (by omega) hl
  simpa [impl_allWithin.f] using h

/-! IsCase -/
theorem IsCase_ev (n s u h : List Int) (hn : n.length ≤ 2000000) (hs : s.length ≤ 2000000) (hu : u.length ≤ 2000000) (hh : h.length ≤ 2000000) : Ev (fun k => impl_IsCase.f k n s u h) (decide (OkCase n s u h)) := by
  unfold impl_IsCase.f
  by_cases c : n.length ≤ 8 ∧ s.length = n.length ∧ u.length = n.length ∧ h.length = n.length
  · refine ev_ifp (by omega) (ev_ifp (by omega) (ev_ifp (by omega) (ev_ifp (by omega) (ev_bind (allWithin_ev n 0 20 hn) ?_))))
    by_cases c1 : ∀ x ∈ n, 0 ≤ x ∧ x ≤ 20
    · refine ev_ifp (by simpa using c1) (ev_bind (allWithin_ev s 0 99 hs) ?_)
      by_cases c2 : ∀ x ∈ s, 0 ≤ x ∧ x ≤ 99
      · refine ev_ifp (by simpa using c2) (ev_bind (allWithin_ev u 0 9 hu) ?_)
        by_cases c3 : ∀ x ∈ u, 0 ≤ x ∧ x ≤ 9
        · refine ev_ifp (by simpa using c3) (ev_bind (allWithin_ev h 0 9 hh) (ev_now ?_))
          rw [decide_eq_decide]
          exact ⟨fun z => ⟨c, c1, c2, c3, z⟩, fun z => z.2.2.2.2⟩
        · refine ev_ifn (by simpa using c3) (ev_now ?_)
          symm; rw [decide_eq_false_iff_not]; exact fun z => c3 z.2.2.2.1
      · refine ev_ifn (by simpa using c2) (ev_now ?_)
        symm; rw [decide_eq_false_iff_not]; exact fun z => c2 z.2.2.1
    · refine ev_ifn (by simpa using c1) (ev_now ?_)
      symm; rw [decide_eq_false_iff_not]; exact fun z => c1 z.2.1
  · have hf : decide (OkCase n s u h) = false := by rw [decide_eq_false_iff_not]; exact fun z => c z.1
    rw [hf]
    by_cases a : (n.length : Int) ≤ 8
    · refine ev_ifp a ?_
      by_cases b : (s.length : Int) = n.length
      · refine ev_ifp b ?_
        by_cases d : (u.length : Int) = n.length
        · exact ev_ifp d (ev_ifn (fun e => c ⟨by omega, by omega, by omega, by omega⟩) (ev_now rfl))
        · exact ev_ifn d (ev_now rfl)
      · exact ev_ifn b (ev_now rfl)
    · exact ev_ifn a (ev_now rfl)

/-! areRates -/
theorem areRates_ev (n s u h l : List Int) (hl : l.length ≤ 2000000) (hn : n.length ≤ 2000000) (hs : s.length ≤ 2000000) (hu : u.length ≤ 2000000) (hh : h.length ≤ 2000000) : Ev (fun k => impl_areRates.f k n s u h l) (decide (OkCase n s u h ∧ Fits n l 9)) := by
  unfold impl_areRates.f
  refine ev_bind (IsCase_ev n s u h hn hs hu hh) ?_
  by_cases c : OkCase n s u h
  · refine ev_ifp (by simpa using c) ?_
    by_cases a : (l.length : Int) = n.length
    · refine ev_ifp a (ev_bind (allWithin_ev l 0 9 hl) (ev_now ?_))
      rw [decide_eq_decide]; exact ⟨fun z => ⟨c, z, a⟩, fun z => z.2.1⟩
    · refine ev_ifn a (ev_now ?_)
      symm; rw [decide_eq_false_iff_not]; exact fun z => a z.2.2
  · refine ev_ifn (by simpa using c) (ev_now ?_)
    symm; rw [decide_eq_false_iff_not]; exact fun z => c z.1

/-! total -/
theorem total_l0 (l : List Int) (i : Nat) (h1 : i ≤ l.length) (hl : l.length ≤ 2000) (hb : ∀ x ∈ l, 0 ≤ x ∧ x ≤ 1000000000) :
    Ev (fun k => impl_total.l0 k (l.take i).sum l (l.length : Int) (i : Int)) l.sum := by
  refine ev_succ ?_
  by_cases h : i < l.length
  · have a := sum_take_bound l i 1000000000 hb 2000 hl (by omega)
    have b := sum_take_bound l (i + 1) 1000000000 hb 2000 hl (by omega)
    rw [sum_take_succ l i h] at b
    simp (disch := omega) only [impl_total.l0, if_pos, w64]
    rw [← sum_take_succ l i h]
    exact total_l0 l (i + 1) (by omega) hl hb
  · simp (disch := omega) only [impl_total.l0, if_neg]
    exact ev_now (by rw [List.take_of_length_le (by omega)])
 termination_by l.length - i
theorem total_ev (l : List Int) (hl : l.length ≤ 2000) (hb : ∀ x ∈ l, 0 ≤ x ∧ x ≤ 1000000000) : Ev (fun k => impl_total.f k l) l.sum := by
  have h := total_l0 l 0 (by omega) hl hb
  simpa [impl_total.f] using h

/-! isLate -/
theorem isLate_ev (n s u h p : List Int) (c : OkCase n s u h) (hp : p.length ≤ 2000000) : Ev (fun k => impl_Case_isLate.f k n s u h p) (decide (LatePlan n p)) := by
  have hl := c.1
  unfold impl_Case_isLate.f
  by_cases a : (p.length : Int) = n.length
  · refine ev_ifp a (ev_bind (allWithin_ev p 0 160 hp) ?_)
    by_cases b : ∀ x ∈ p, 0 ≤ x ∧ x ≤ 160
    · refine ev_ifp (by simpa using b) (ev_bind (total_ev p (by omega) (fun x hx => by have := b x hx; omega)) (ev_bind (total_ev n (by omega) (fun x hx => by have := c.2.1 x hx; omega)) (ev_now ?_)))
      rw [Bool.eq_iff_iff]; simp only [beq_iff_eq, decide_eq_true_iff]
      exact ⟨fun z => ⟨by omega, b, z⟩, fun z => z.2.2⟩
    · refine ev_ifn (by simpa using b) (ev_now ?_)
      symm; rw [decide_eq_false_iff_not]; exact fun z => b z.2.1
  · refine ev_ifn a (ev_now ?_)
    symm; rw [decide_eq_false_iff_not]; exact fun z => a (by have := z.1; omega)

/-! Case_late -/
theorem Case_late_eq {n s u h r : List Int} (c : OkCase n s u h) (hr : ∀ x ∈ r, 0 ≤ x ∧ x ≤ 9) (hl : r.length = n.length) (t : Nat) (ht : t < n.length) (x b : Int) (hx : 0 ≤ x ∧ x ≤ 100000) (hb : -100000 ≤ b ∧ b ≤ 100000) :
    impl_Case_late.f n s u h r (t : Int) x b = some (lateR s u h r t x b) := by
  have cl := c.1
  obtain ⟨p1, p2, p3, p4⟩ := late_parts c hr hl t ht x b hx hb
  unfold impl_Case_late.f lateR
  rw [if_pos (by omega), if_pos (by omega), if_pos (by omega), if_pos (by omega), w64 (x := -b) (by omega) (by omega), w64 (x := rd u (t : Int) * x) (by omega) (by omega), w64 (x := rd h (t : Int) * mx 0 b) (by omega) (by omega), w64 (x := rd r (t : Int) * mx 0 (-b)) (by omega) (by omega)]
  by_cases z : x > 0
  · rw [if_pos z, if_pos (by omega), if_pos z, w64 (x := rd u (t : Int) * x + rd h (t : Int) * mx 0 b) (by omega) (by omega), w64 (x := rd u (t : Int) * x + rd h (t : Int) * mx 0 b + rd r (t : Int) * mx 0 (-b)) (by omega) (by omega), w64 (by omega) (by omega)]
  · rw [if_neg z, if_neg z, w64 (x := rd u (t : Int) * x + rd h (t : Int) * mx 0 b) (by omega) (by omega), w64 (by omega) (by omega)]; congr 1; omega

/-! LateCost -/
theorem LateCost_l0 (n s u h r p : List Int) (c : OkCase n s u h) (f : Fits n r 9) (lp : LatePlan n p) (d : Nat) : ∀ (t : Nat) (cost : Int), t + d = n.length → Ev (fun k => impl_LateCost.l0 k r cost (bal p n t) p (p.length : Int) (t : Int) n s u h) (lateCostGo n s u h r p d t cost) := by
  have hl := c.1
  have fl := f.2
  have pl := lp.1
  induction d with
  | zero =>
    intro t cost ht
    refine ev_succ ?_
    simp (disch := omega) only [impl_LateCost.l0, if_neg]
    exact ev_now rfl
  | succ d ih =>
    intro t cost ht
    have b0 := bal_bound p n t lp.2.1 c.2.1 (by omega) (by omega)
    have b1 := bal_bound p n (t + 1) lp.2.1 c.2.1 (by omega) (by omega)
    have e := bal_succ p n t (by omega) (by omega)
    have r1 := lp.2.1 _ (rd_mem p t (by omega))
    have r2 := c.2.1 _ (rd_mem n t (by omega))
    refine ev_succ ?_
    simp only [impl_LateCost.l0]
    rw [w64 (x := rd p (t : Int) - rd n (t : Int)) (by omega) (by omega), w64 (x := bal p n t + (rd p (t : Int) - rd n (t : Int))) (by omega) (by omega), show bal p n t + (rd p (t : Int) - rd n (t : Int)) = bal p n (t + 1) by omega, w64 (x := (t : Int) + 1) (by omega) (by omega)]
    refine ev_ifp (by omega) (ev_ifp (by omega) (ev_ifp (by omega) (ev_ifp (by omega) ?_)))
    simp only [Case_late_eq c f.1 (show r.length = n.length by omega) t (by omega) (rd p (t : Int)) (bal p n (t + 1)) (by omega) (by omega), Option.bind_some]
    exact ih (t + 1) _ (by omega)
theorem LateCost_ev (n s u h r p : List Int) (hr : r.length ≤ 2000000) (hp : p.length ≤ 2000000) (hn : n.length ≤ 2000000) (hs : s.length ≤ 2000000) (hu : u.length ≤ 2000000) (hh : h.length ≤ 2000000) : Ev (fun k => impl_LateCost.f k n s u h r p) (LateCostR n s u h r p) := by
  unfold impl_LateCost.f LateCostR
  refine ev_bind (areRates_ev n s u h r hr hn hs hu hh) ?_
  by_cases c : OkCase n s u h ∧ Fits n r 9
  · refine ev_ifp (by rw [decide_eq_true_iff]; exact c) (ev_bind (isLate_ev n s u h p c.1 hp) (ev_succ ?_))
    simp only [impl_LateCost.j0]
    by_cases l : LatePlan n p
    · rw [if_pos ⟨c, l⟩]
      refine ev_ifn (by simpa using l) ?_
      have := LateCost_l0 n s u h r p c.1 c.2 l n.length 0 0 (by omega)
      rw [bal_zero] at this
      exact this
    · rw [if_neg (fun z => l z.2)]; exact ev_ifp (by simpa using l) (ev_now rfl)
  · rw [if_neg (fun z => c z.1)]
    refine ev_ifn (by rw [decide_eq_true_iff]; exact c) (ev_succ ?_)
    simp only [impl_LateCost.j0]
    exact ev_ifp trivial (ev_now rfl)

/-! l1In -/
theorem l1In_eq (a b c : Int) : spec_l1In.f a b c = some (decide (b ≤ a ∧ a ≤ c)) := by
  unfold spec_l1In.f
  by_cases h : a ≥ b
  · rw [if_pos h]; congr 1; rw [decide_eq_decide]; omega
  · rw [if_neg h]; congr 1; symm; rw [decide_eq_false_iff_not]; omega

/-! l2Row -/
theorem l2Row_l0 (l : List Int) (n hi : Int) (i : Nat) (h1 : i ≤ l.length) (hl : l.length ≤ 2000000) :
    Ev (fun k => spec_l2Row.l0 k l n hi (i : Int)) (decide ((∀ x ∈ l.drop i, 0 ≤ x ∧ x ≤ hi) ∧ (l.length : Int) = n)) := by
  refine ev_succ ?_
  by_cases h : i < l.length
  · simp (disch := omega) only [spec_l2Row.l0, if_pos, l1In_eq, Option.bind_some, w64]
    rw [drop_rd l i h]
    by_cases c : 0 ≤ rd l i ∧ rd l i ≤ hi
    · refine ev_ifp (by simpa using c) ?_
      refine ev_to (l2Row_l0 l n hi (i + 1) (by omega) hl) ?_
      rw [decide_eq_decide]; simp [c]
    · refine ev_ifn (by simpa using c) (ev_now ?_)
      symm; rw [decide_eq_false_iff_not]; simp [c]
  · simp (disch := omega) only [spec_l2Row.l0, if_neg]
    exact ev_now (by
      rw [List.drop_eq_nil_of_le (show l.length ≤ i by omega)]
      rw [Bool.eq_iff_iff]; simp)
 termination_by l.length - i
theorem l2Row_ev (l : List Int) (n hi : Int) (hl : l.length ≤ 2000000) : Ev (fun k => spec_l2Row.f k l n hi) (decide ((∀ x ∈ l, 0 ≤ x ∧ x ≤ hi) ∧ (l.length : Int) = n)) := by
  have h := l2Row_l0 l n hi 0 (by omega) hl
  simpa [spec_l2Row.f] using h

/-! l2Good -/
theorem l2Good_ev (n s u h : List Int) (hn : n.length ≤ 2000000) (hs : s.length ≤ 2000000) (hu : u.length ≤ 2000000) (hh : h.length ≤ 2000000) : Ev (fun k => spec_l2Good.f k n s u h) (decide (OkCase n s u h)) := by
  unfold spec_l2Good.f
  by_cases c : (n.length : Int) ≤ 8
  · refine ev_ifp c (ev_bind (l2Row_ev n _ 20 hn) ?_)
    by_cases c1 : ∀ x ∈ n, 0 ≤ x ∧ x ≤ 20
    · refine ev_ifp (by simpa using c1) (ev_bind (l2Row_ev s _ 99 hs) ?_)
      by_cases c2 : (∀ x ∈ s, 0 ≤ x ∧ x ≤ 99) ∧ (s.length : Int) = n.length
      · refine ev_ifp (by rw [decide_eq_true_iff]; exact c2) (ev_bind (l2Row_ev u _ 9 hu) ?_)
        by_cases c3 : (∀ x ∈ u, 0 ≤ x ∧ x ≤ 9) ∧ (u.length : Int) = n.length
        · refine ev_ifp (by rw [decide_eq_true_iff]; exact c3) (ev_bind (l2Row_ev h _ 9 hh) (ev_now ?_))
          rw [decide_eq_decide]
          exact ⟨fun z => ⟨⟨by omega, by omega, by omega, by omega⟩, c1, c2.1, c3.1, z.1⟩, fun z => ⟨z.2.2.2.2, by have := z.1.2.2.2; omega⟩⟩
        · refine ev_ifn (by rw [decide_eq_true_iff]; exact c3) (ev_now ?_)
          symm; rw [decide_eq_false_iff_not]; exact fun z => c3 ⟨z.2.2.2.1, by have := z.1.2.2.1; omega⟩
      · refine ev_ifn (by rw [decide_eq_true_iff]; exact c2) (ev_now ?_)
        symm; rw [decide_eq_false_iff_not]; exact fun z => c2 ⟨z.2.2.1, by have := z.1.2.1; omega⟩
    · refine ev_ifn (by simpa using c1) (ev_now ?_)
      symm; rw [decide_eq_false_iff_not]; exact fun z => c1 z.2.1
  · refine ev_ifn c (ev_now ?_)
    symm; rw [decide_eq_false_iff_not]; exact fun z => c (by have := z.1.1; omega)

/-! l4Rates -/
theorem l4Rates_ev (n s u h l : List Int) (hl : l.length ≤ 2000000) (hn : n.length ≤ 2000000) (hs : s.length ≤ 2000000) (hu : u.length ≤ 2000000) (hh : h.length ≤ 2000000) : Ev (fun k => spec_l4Rates.f k n s u h l) (decide (OkCase n s u h ∧ Fits n l 9)) := by
  unfold spec_l4Rates.f
  refine ev_bind (l2Good_ev n s u h hn hs hu hh) ?_
  by_cases c : OkCase n s u h
  · refine ev_ifp (by simpa using c) (ev_bind (l2Row_ev l _ 9 hl) (ev_now ?_))
    rw [decide_eq_decide]; exact ⟨fun z => ⟨c, z⟩, fun z => z.2⟩
  · refine ev_ifn (by simpa using c) (ev_now ?_)
    symm; rw [decide_eq_false_iff_not]; exact fun z => c z.1

/-! l2Sum -/
theorem l2Sum_l0 (l : List Int) (i : Nat) (h1 : i ≤ l.length) (hl : l.length ≤ 2000) (hb : ∀ x ∈ l, 0 ≤ x ∧ x ≤ 1000000000) :
    Ev (fun k => spec_l2Sum.l0 k l (l.take i).sum (i : Int)) l.sum := by
  refine ev_succ ?_
  by_cases h : i < l.length
  · have a := sum_take_bound l i 1000000000 hb 2000 hl (by omega)
    have b := sum_take_bound l (i + 1) 1000000000 hb 2000 hl (by omega)
    rw [sum_take_succ l i h] at b
    simp (disch := omega) only [spec_l2Sum.l0, if_pos, w64]
    rw [← sum_take_succ l i h]
    exact l2Sum_l0 l (i + 1) (by omega) hl hb
  · simp (disch := omega) only [spec_l2Sum.l0, if_neg]
    exact ev_now (by rw [List.take_of_length_le (by omega)])
 termination_by l.length - i
theorem l2Sum_ev (l : List Int) (hl : l.length ≤ 2000) (hb : ∀ x ∈ l, 0 ≤ x ∧ x ≤ 1000000000) : Ev (fun k => spec_l2Sum.f k l) l.sum := by
  have h := l2Sum_l0 l 0 (by omega) hl hb
  simpa [spec_l2Sum.f] using h
/-! l4Late -/
theorem l4Late_ev (n s u h p : List Int) (c : OkCase n s u h) (hp : p.length ≤ 2000000) : Ev (fun k => spec_l4Late.f k n s u h p) (decide (LatePlan n p)) := by
  have hl := c.1
  unfold spec_l4Late.f
  refine ev_bind (l2Row_ev p _ 160 hp) ?_
  by_cases b : (∀ x ∈ p, 0 ≤ x ∧ x ≤ 160) ∧ (p.length : Int) = n.length
  · refine ev_ifp (by rw [decide_eq_true_iff]; exact b) (ev_bind (l2Sum_ev p (by omega) (fun x hx => by have := b.1 x hx; omega)) (ev_bind (l2Sum_ev n (by omega) (fun x hx => by have := c.2.1 x hx; omega)) (ev_now ?_)))
    rw [Bool.eq_iff_iff]; simp only [beq_iff_eq, decide_eq_true_iff]
    exact ⟨fun z => ⟨by omega, b.1, z⟩, fun z => z.2.2⟩
  · refine ev_ifn (by rw [decide_eq_true_iff]; exact b) (ev_now ?_)
    symm; rw [decide_eq_false_iff_not]; exact fun z => b ⟨z.2.1, by have := z.1; omega⟩

/-! l4Owe -/
theorem l4Owe_eq {n s u h r : List Int} (c : OkCase n s u h) (hr : ∀ x ∈ r, 0 ≤ x ∧ x ≤ 9) (hl : r.length = n.length) (t : Nat) (ht : t < n.length) (x b : Int) (hx : 0 ≤ x ∧ x ≤ 100000) (hb : -100000 ≤ b ∧ b ≤ 100000) :
    spec_l4Owe.f n s u h r (t : Int) x b = some (lateR s u h r t x b) := by
  have cl := c.1
  obtain ⟨p1, p2, p3, p4⟩ := late_parts c hr hl t ht x b hx hb
  unfold spec_l4Owe.f spec_l4Step.f lateR
  simp only [l1Most_eq, Option.bind_some]
  rw [mx_comm b 0, mx_comm _ 0, if_pos (by omega), if_pos (by omega), if_pos (by omega), w64 (x := -b) (by omega) (by omega), w64 (x := rd u (t : Int) * x) (by omega) (by omega), w64 (x := rd h (t : Int) * mx 0 b) (by omega) (by omega), w64 (x := rd r (t : Int) * mx 0 (-b)) (by omega) (by omega), w64 (x := rd u (t : Int) * x + rd h (t : Int) * mx 0 b) (by omega) (by omega)]
  by_cases z : x > 0
  · rw [if_pos z, if_pos (by omega), Option.bind_some, if_pos (by omega), if_pos (by omega), if_pos z, w64 (x := rd u (t : Int) * x + rd h (t : Int) * mx 0 b + rd s (t : Int)) (by omega) (by omega), w64 (by omega) (by omega)]; congr 1; omega
  · rw [if_neg z, Option.bind_some, if_pos (by omega), if_pos (by omega), if_neg z, w64 (by omega) (by omega)]; congr 1; omega

/-! l2Stocks -/
/-- The balances behind each period. -/
def stocksL (p n : List Int) (d : Nat) : List Int := (List.range d).map fun t => bal p n (t + 1)
theorem stocksL_len (p n : List Int) (d : Nat) : (stocksL p n d).length = d := by simp [stocksL]
theorem stocksL_rd (p n : List Int) (d t : Nat) (h : t < d) : rd (stocksL p n d) (t : Int) = bal p n (t + 1) := by
  rw [rd_get _ _ (by rw [stocksL_len]; exact h)]; simp [stocksL]
theorem l2Stocks_l0 (n s u h p : List Int) (c : OkCase n s u h) (hp : p.length = n.length) (hb : ∀ x ∈ p, 0 ≤ x ∧ x ≤ 160) (d : Nat) : ∀ t : Nat, t + d = n.length → Ev (fun k => spec_l2Stocks.l0 k p (stocksL p n t) (bal p n t) (t : Int) n s u h) (stocksL p n n.length) := by
  have hl := c.1
  induction d with
  | zero =>
    intro t ht
    refine ev_succ ?_
    simp (disch := omega) only [spec_l2Stocks.l0, if_neg]
    obtain rfl : t = n.length := by omega
    exact ev_now rfl
  | succ d ih =>
    intro t ht
    have b0 := bal_bound p n t hb c.2.1 (by omega) (by omega)
    have b1 := bal_bound p n (t + 1) hb c.2.1 (by omega) (by omega)
    have e := bal_succ p n t (by omega) (by omega)
    have r := hb _ (rd_mem p t (by omega))
    refine ev_succ ?_
    simp (disch := omega) only [spec_l2Stocks.l0, if_pos, w64, stocksL_len]
    rw [show bal p n t + rd p (t : Int) - rd n (t : Int) = bal p n (t + 1) by omega, show stocksL p n t ++ [bal p n (t + 1)] = stocksL p n (t + 1) by simp [stocksL, List.range_succ]]
    exact ih (t + 1) (by omega)
theorem l2Stocks_ev (n s u h p : List Int) (c : OkCase n s u h) (hp : p.length = n.length) (hb : ∀ x ∈ p, 0 ≤ x ∧ x ≤ 160) : Ev (fun k => spec_l2Stocks.f k n s u h p) (stocksL p n n.length) := by
  have := l2Stocks_l0 n s u h p c hp hb n.length 0 (by omega)
  rw [bal_zero] at this
  exact this

/-! spec_LateCost -/
theorem spec_LateCost_l0 (n s u h r p : List Int) (c : OkCase n s u h) (f : Fits n r 9) (lp : LatePlan n p) (d : Nat) : ∀ (t : Nat) (cost : Int), t + d = n.length → Ev (fun k => spec_LateCost.l0 k r p cost (stocksL p n n.length) (t : Int) n s u h) (lateCostGo n s u h r p d t cost) := by
  have hl := c.1
  have fl := f.2
  have pl := lp.1
  induction d with
  | zero =>
    intro t cost ht
    refine ev_succ ?_
    simp (disch := omega) only [spec_LateCost.l0, if_neg]
    exact ev_now rfl
  | succ d ih =>
    intro t cost ht
    have b1 := bal_bound p n (t + 1) lp.2.1 c.2.1 (by omega) (by omega)
    have r1 := lp.2.1 _ (rd_mem p t (by omega))
    have sl := stocksL_len p n n.length
    refine ev_succ ?_
    simp only [spec_LateCost.l0]
    rw [w64 (x := (t : Int) + 1) (by omega) (by omega), stocksL_rd p n n.length t (by omega)]
    refine ev_ifp (by omega) (ev_ifp (by omega) (ev_ifp (by omega) ?_))
    simp only [l4Owe_eq c f.1 (show r.length = n.length by omega) t (by omega) (rd p (t : Int)) (bal p n (t + 1)) (by omega) (by omega), Option.bind_some]
    exact ih (t + 1) _ (by omega)
theorem spec_LateCost_ev (n s u h r p : List Int) (hr : r.length ≤ 2000000) (hp : p.length ≤ 2000000) (hn : n.length ≤ 2000000) (hs : s.length ≤ 2000000) (hu : u.length ≤ 2000000) (hh : h.length ≤ 2000000) : Ev (fun k => spec_LateCost.f k n s u h r p) (LateCostR n s u h r p) := by
  unfold spec_LateCost.f LateCostR
  refine ev_bind (l4Rates_ev n s u h r hr hn hs hu hh) ?_
  by_cases c : OkCase n s u h ∧ Fits n r 9
  · refine ev_ifp (by rw [decide_eq_true_iff]; exact c) (ev_bind (l4Late_ev n s u h p c.1 hp) (ev_succ ?_))
    simp only [spec_LateCost.j0]
    by_cases l : LatePlan n p
    · rw [if_pos ⟨c, l⟩]
      exact ev_ifn (by simpa using l) (ev_bind (l2Stocks_ev n s u h p c.1 l.1 l.2.1) (spec_LateCost_l0 n s u h r p c.1 c.2 l n.length 0 0 (by omega)))
    · rw [if_neg (fun z => l z.2)]; exact ev_ifp (by simpa using l) (ev_now rfl)
  · rw [if_neg (fun z => c z.1)]
    refine ev_ifn (by rw [decide_eq_true_iff]; exact c) (ev_succ ?_)
    simp only [spec_LateCost.j0]
    exact ev_ifp trivial (ev_now rfl)

/-! LAW FnExactLateCost -/
theorem FnExactLateCost (n s u h r p : List Int) (mn : n.length ≤ maxLen) (ms : s.length ≤ maxLen) (mu : u.length ≤ maxLen) (mh : h.length ≤ maxLen) (_ : r.length ≤ maxLen) (_ : p.length ≤ maxLen) : ∃ k, laws_FnExactLateCost.f k n s u h r p = some true := by
  refine Ev.rounds ?_
  unfold laws_FnExactLateCost.f
  by_cases h1 : (r.length : Int) > 1048576
  · exact ev_ifp h1 (ev_now rfl)
  refine ev_ifn h1 ?_
  by_cases h0 : (p.length : Int) > 1048576
  · exact ev_ifp h0 (ev_now rfl)
  refine ev_ifn h0 ?_
  have hr : r.length ≤ 2000000 := by omega
  have hp : p.length ≤ 2000000 := by omega
  rcases szCase_eq n s u h mn ms mu mh 1048576 (by omega) (by omega) with z | ⟨z, zl⟩
  · rw [z]; simp only [Option.bind_some]; exact ev_ifp (by omega) (ev_now rfl)
  rw [z]; simp only [Option.bind_some]
  refine ev_ifn (by omega) ?_
  clear z mn ms mu mh
  have hn : n.length ≤ 2000000 := by omega
  have hs_ : s.length ≤ 2000000 := by omega
  have hu : u.length ≤ 2000000 := by omega
  have hh : h.length ≤ 2000000 := by omega
  have hs := spec_LateCost_ev n s u h r p hr hp hn hs_ hu hh
  have hi := LateCost_ev n s u h r p hr hp hn hs_ hu hh
  repeat (first
    | exact ev_now rfl
    | refine ev_bind hs ?_
    | refine ev_bind hi ?_
    | (refine ev_bind (toIntS_ev _ ?_) ?_; first | assumption | omega)
    | (refine ev_bind (eqIntS_ev _ ?_) ?_; first | assumption | omega)
    | (refine ev_bind (toCase_ev _ _ _ _ ?_ ?_ ?_ ?_) ?_; assumption; assumption; assumption; assumption)
    | (refine ev_bind (eqCase_ev _ _ _ _ ?_ ?_ ?_ ?_) ?_; assumption; assumption; assumption; assumption)
    | (refine ev_ifp ?_ ?_; first | rfl | omega | focus (simp; done))
    | (refine ev_ifn ?_ ?_; first | omega | focus (simp; done))
    | (refine ev_succ ?_; simp only [laws_FnExactLateCost.j0]))

end Go.Proofs.Ytmlapbkejnollaa.Pure
