/- The pure statement of the law FnExactClaimsOf: what the program's function answers is what the reference answers, for all arguments of the kinds of its parameters. -/
import Derived.Test.YtkkockpnnoifeaaQFnExactClaimsOfx5
import Derived.Test.YtkkockpnnoifeaaBase
namespace Go.Proofs.Ytkkockpnnoifeaa.Pure
set_option linter.unusedSimpArgs false
open Go.RowKit Go.Proofs.Ytkkockpnnoifeaa.PFnExactClaimsOf Go.Proofs.YtkkockpnnoifeaaW.PrintWords Go.Proofs.YtkkockpnnoifeaaW.PrintLast Go.Proofs.Ytkkockpnnoifeaa.Base

/-! szIntS -/
theorem szIntS_eq (l : List Int) (a : Int) (h : l.length ≤ maxLen) (h0 : 0 ≤ a) (h1 : a ≤ 1048576) : laws_szIntS.f l a = some (if a < l.length then -1 else a - l.length) := by
  unfold maxLen at h
  unfold laws_szIntS.f
  rw [w64 (by omega) (by omega)]
  by_cases c : a < l.length
  · rw [if_pos c, if_pos (by omega)]
  · rw [if_neg c, if_neg (by omega)]

/-! szCase -/
/-- Either the case is too large, and the law says nothing, or its four lists are short. -/
theorem szCase_eq (n s u h : List Int) (hn : n.length ≤ maxLen) (hs : s.length ≤ maxLen) (hu : u.length ≤ maxLen) (hh : h.length ≤ maxLen) (a : Int) (h0 : 0 ≤ a) (h1 : a ≤ 1048576) :
    laws_szCase.f n s u h a = some (-1) ∨ (laws_szCase.f n s u h a = some (a - n.length - s.length - u.length - h.length) ∧ (n.length : Int) + s.length + u.length + h.length ≤ a) := by
  unfold laws_szCase.f
  rw [szIntS_eq n a hn h0 h1]
  by_cases c1 : a < n.length
  · left; rw [if_pos c1]; rfl
  rw [if_neg c1, Option.bind_some, if_neg (by omega), szIntS_eq s _ hs (by omega) (by omega)]
  by_cases c2 : a - n.length < s.length
  · left; rw [if_pos c2]; rfl
  rw [if_neg c2, Option.bind_some, if_neg (by omega), szIntS_eq u _ hu (by omega) (by omega)]
  by_cases c3 : a - n.length - s.length < u.length
  · left; rw [if_pos c3]; rfl
  rw [if_neg c3, Option.bind_some, if_neg (by omega), szIntS_eq h _ hh (by omega) (by omega)]
  by_cases c4 : a - n.length - s.length - u.length < h.length
  · left; rw [if_pos c4]; rfl
  right
  rw [if_neg c4, Option.bind_some, if_neg (by omega)]
  exact ⟨rfl, by omega⟩

/-! toIntS -/
theorem toIntS_l0 (l acc : List Int) (i : Nat) (hi : i ≤ l.length) (hl : l.length ≤ 2000000) (ha : acc.length = l.length) (hg : ∀ j, j < i → acc[j]? = l[j]?) :
    Ev (fun k => laws_toIntS.l0 k l acc (i : Int)) l := by
  refine ev_succ ?_
  by_cases h : i < l.length
  · simp (disch := omega) only [laws_toIntS.l0, if_pos, w64, Int.toNat_natCast]
    refine toIntS_l0 l (acc.set i (rd l i)) (i + 1) (by omega) hl (by simpa using ha) (fun j hj => ?_)
    rw [set_get _ _ _ _ (by omega)]
    by_cases e : j = i
    · subst e; rw [if_pos rfl, get_rd l j h]
    · rw [if_neg e]; exact hg j (by omega)
  · simp (disch := omega) only [laws_toIntS.l0, if_neg]
    exact ev_now (eq_of_get ha fun j hj => hg j (by omega))
 termination_by l.length - i
theorem toIntS_ev (l : List Int) (hl : l.length ≤ 2000000) : Ev (fun k => laws_toIntS.f k l) l := by
  simp (disch := omega) only [laws_toIntS.f, if_pos, Int.toNat_natCast]
  exact toIntS_l0 l _ 0 (by omega) hl (by simp) (fun j hj => by omega)

/-! toCase -/
theorem toCase_ev (n s u h : List Int) (hn : n.length ≤ 2000000) (hs : s.length ≤ 2000000) (hu : u.length ≤ 2000000) (hh : h.length ≤ 2000000) : Ev (fun k => laws_toCase.f k n s u h) (n, s, u, h) := by
  unfold laws_toCase.f
  exact ev_bind (toIntS_ev n hn) (ev_bind (toIntS_ev s hs) (ev_bind (toIntS_ev u hu) (ev_bind (toIntS_ev h hh) (ev_now rfl))))

/-! eqIntS -/
theorem eqIntS_l0 (l : List Int) (i : Nat) (hi : i ≤ l.length) (hl : l.length ≤ 2000000) : Ev (fun k => laws_eqIntS.l0 k l l (i : Int)) true := by
  refine ev_succ ?_
  by_cases h : i < l.length
  · simp (disch := omega) only [laws_eqIntS.l0, if_pos, w64]
    exact eqIntS_l0 l (i + 1) (by omega) hl
  · simp (disch := omega) only [laws_eqIntS.l0, if_neg]
    exact ev_now rfl
 termination_by l.length - i
theorem eqIntS_ev (l : List Int) (hl : l.length ≤ 2000000) : Ev (fun k => laws_eqIntS.f k l l) true := by
  simp (disch := omega) only [laws_eqIntS.f, if_pos]
  exact eqIntS_l0 l 0 (by omega) hl

/-! eqCase -/
theorem eqCase_ev (n s u h : List Int) (hn : n.length ≤ 2000000) (hs : s.length ≤ 2000000) (hu : u.length ≤ 2000000) (hh : h.length ≤ 2000000) : Ev (fun k => laws_eqCase.f k n s u h n s u h) true := by
  unfold laws_eqCase.f
  exact ev_bind (eqIntS_ev n hn) (ev_ifp rfl (ev_bind (eqIntS_ev s hs) (ev_ifp rfl (ev_bind (eqIntS_ev u hu) (ev_ifp rfl (ev_bind (eqIntS_ev h hh) (ev_ifp rfl (ev_now rfl))))))))

/-! markIntS -/
theorem markIntS_l0 (l : List Int) (m : Int) (i : Nat) (acc : List Int) (hm : 0 ≤ m) (hm2 : m ≤ 100000000) (hi : i ≤ l.length) (hl : l.length ≤ 2000000) (ha : acc.length = l.length) (hg : ∀ j, j < i → acc[j]? = (up m l.length)[j]?) :
    Ev (fun k => laws_markIntS.l0 k acc (m + i) (i : Int)) (m + l.length, up m l.length) := by
  refine ev_succ ?_
  by_cases h : i < l.length
  · simp (disch := omega) only [laws_markIntS.l0, if_pos, w64, Int.toNat_natCast]
    rw [show m + (i : Int) + 1 = m + ((i + 1 : Nat) : Int) by omega, show (i : Int) + 1 = ((i + 1 : Nat) : Int) by omega]
    refine markIntS_l0 l m (i + 1) (acc.set i (m + i)) hm hm2 (by omega) hl (by simpa using ha) (fun j hj => ?_)
    rw [set_get _ _ _ _ (by omega)]
    by_cases e : j = i
    · subst e; rw [if_pos rfl, up_get m _ _ h]
    · rw [if_neg e]; exact hg j (by omega)
  · simp (disch := omega) only [laws_markIntS.l0, if_neg]
    obtain rfl : i = l.length := by omega
    exact ev_now (by rw [eq_of_get (m := up m l.length) (by rw [up_length, ha]) (fun j hj => hg j (by omega))])
 termination_by l.length - i
theorem markIntS_ev (l : List Int) (m : Int) (hm : 0 ≤ m) (hm2 : m ≤ 100000000) (hl : l.length ≤ 2000000) : Ev (fun k => laws_markIntS.f k l m) (m + l.length, up m l.length) := by
  have h := markIntS_l0 l m 0 l hm hm2 (by omega) hl rfl (fun j hj => by omega)
  simpa [laws_markIntS.f] using h

/-! markCase -/
theorem markCase_ev (n s u h : List Int) (m : Int) (h0 : 0 ≤ m) (h1 : m ≤ 10000000) (hn : n.length ≤ 2000000) (hs : s.length ≤ 2000000) (hu : u.length ≤ 2000000) (hh : h.length ≤ 2000000) :
    Ev (fun k => laws_markCase.f k n s u h m) (m + n.length + s.length + u.length + h.length, up m n.length, up (m + n.length) s.length, up (m + n.length + s.length) u.length, up (m + n.length + s.length + u.length) h.length) := by
  unfold laws_markCase.f
  exact ev_bind (markIntS_ev n m h0 (by omega) hn) (ev_bind (markIntS_ev s _ (by omega) (by omega) hs) (ev_bind (markIntS_ev u _ (by omega) (by omega) hu) (ev_bind (markIntS_ev h _ (by omega) (by omega) hh) (ev_now rfl))))

/-! heldIntS -/
theorem heldIntS_l0 (n : Nat) (m : Int) (i : Nat) (hm : 0 ≤ m) (hm2 : m ≤ 100000000) (hi : i ≤ n) (hl : n ≤ 2000000) :
    Ev (fun k => laws_heldIntS.l0 k (up m n) (m + i) (i : Int)) (m + n) := by
  refine ev_succ ?_
  by_cases h : i < n
  · simp (disch := omega) only [laws_heldIntS.l0, up_length, if_pos, w64, up_rd m n i h]
    rw [show m + (i : Int) + 1 = m + ((i + 1 : Nat) : Int) by omega, show (i : Int) + 1 = ((i + 1 : Nat) : Int) by omega]
    exact heldIntS_l0 n m (i + 1) hm hm2 (by omega) hl
  · simp (disch := omega) only [laws_heldIntS.l0, up_length, if_neg]
    obtain rfl : i = n := by omega
    exact ev_now rfl
 termination_by n - i
theorem heldIntS_ev (n : Nat) (m : Int) (hm : 0 ≤ m) (hm2 : m ≤ 100000000) (hl : n ≤ 2000000) : Ev (fun k => laws_heldIntS.f k (up m n) m) (m + n) := by
  have h := heldIntS_l0 n m 0 hm hm2 (by omega) hl
  simpa [laws_heldIntS.f] using h

/-! OkCase -/
/-- A valid case: needs, setups, units, holds. -/
def OkCase (n s u h : List Int) : Prop := (n.length ≤ 8 ∧ s.length = n.length ∧ u.length = n.length ∧ h.length = n.length) ∧ (∀ x ∈ n, 0 ≤ x ∧ x ≤ 20) ∧ (∀ x ∈ s, 0 ≤ x ∧ x ≤ 99) ∧ (∀ x ∈ u, 0 ≤ x ∧ x ≤ 9) ∧ (∀ x ∈ h, 0 ≤ x ∧ x ≤ 9)
instance (n s u h : List Int) : Decidable (OkCase n s u h) := by unfold OkCase; infer_instance

/-! okc -/
/-- The bounds of a valid case's numbers, place by place. -/
theorem okc_n {n s u h : List Int} (c : OkCase n s u h) (i : Nat) (hi : i < n.length) : 0 ≤ rd n (i : Int) ∧ rd n (i : Int) ≤ 20 := c.2.1 _ (rd_mem n i hi)
theorem okc_s {n s u h : List Int} (c : OkCase n s u h) (i : Nat) (hi : i < n.length) : 0 ≤ rd s (i : Int) ∧ rd s (i : Int) ≤ 99 := c.2.2.1 _ (rd_mem s i (by have := c.1; omega))
theorem okc_u {n s u h : List Int} (c : OkCase n s u h) (i : Nat) (hi : i < n.length) : 0 ≤ rd u (i : Int) ∧ rd u (i : Int) ≤ 9 := c.2.2.2.1 _ (rd_mem u i (by have := c.1; omega))
theorem okc_h {n s u h : List Int} (c : OkCase n s u h) (i : Nat) (hi : i < n.length) : 0 ≤ rd h (i : Int) ∧ rd h (i : Int) ≤ 9 := c.2.2.2.2 _ (rd_mem h i (by have := c.1; omega))

/-! seg -/
/-- The sum of the places i, .., j - 1 of a list. -/
def seg (l : List Int) (i j : Nat) : Int := ((l.take j).drop i).sum
theorem seg_self (l : List Int) (i : Nat) : seg l i i = 0 := by
  unfold seg; rw [List.drop_eq_nil_of_le (by rw [List.length_take]; omega)]; rfl
theorem seg_succ (l : List Int) (i j : Nat) (hij : i ≤ j) (hj : j < l.length) : seg l i (j + 1) = seg l i j + rd l (j : Int) := by
  unfold seg
  rw [take_succ_rd l j hj, List.drop_append_of_le_length (by rw [List.length_take]; omega), List.sum_append]; simp
theorem seg_bound (l : List Int) (i j : Nat) (m : Int) (h : ∀ x ∈ l, 0 ≤ x ∧ x ≤ m) (hl : l.length ≤ 8) (h0 : 0 ≤ m) : 0 ≤ seg l i j ∧ seg l i j ≤ m * 8 := by
  have hb := sum_bound ((l.take j).drop i) 0 m (fun x hx => h x (List.mem_of_mem_take (List.mem_of_mem_drop hx)))
  have hlen : (((l.take j).drop i).length : Int) ≤ 8 := by rw [List.length_drop, List.length_take]; omega
  have := Int.mul_le_mul_of_nonneg_left hlen h0
  unfold seg; omega
theorem seg_zero (l : List Int) (j : Nat) : seg l 0 j = (l.take j).sum := rfl

/-! ratesof -/
/-- The rate from a period to another one. -/
def rateR (u h : List Int) (i t : Nat) : Int := rd u (i : Int) + seg h i t
theorem rateR_bound {n s u h : List Int} (c : OkCase n s u h) (i t : Nat) (hi : i < n.length) : 0 ≤ rateR u h i t ∧ rateR u h i t ≤ 81 := by
  have a := okc_u c i hi
  have b := seg_bound h i t 9 c.2.2.2.2 (by have := c.1; omega) (by omega)
  unfold rateR; omega

/-! claimR -/
def claimGo (n u h p : List Int) (i : Nat) : Nat → Nat → Int → Int
  | 0, _, acc => acc
  | d + 1, t, acc => claimGo n u h p i d (t + 1) (wrap64 (acc + mx 0 (wrap64 (rd p (t : Int) - wrap64 (rd n (t : Int) * rateR u h i t)))))
/-- The claim of a period by the prices of the first periods. -/
def claimR (n u h p : List Int) (i : Nat) : Int := claimGo n u h p i (p.length - i) i 0

/-! limits -/
/-- Whole numbers, as many as the case has periods, of 0 .. m. -/
def Fits (n l : List Int) (m : Int) : Prop := (∀ x ∈ l, 0 ≤ x ∧ x ≤ m) ∧ (l.length : Int) = n.length
instance (n l : List Int) (m : Int) : Decidable (Fits n l m) := by unfold Fits; infer_instance

/-! claimsGo -/
def claimsGo (n u h p : List Int) : Nat → Nat → List Int → List Int
  | 0, _, acc => acc
  | d + 1, i, acc => claimsGo n u h p d (i + 1) (acc ++ [claimR n u h p i])
theorem claimsGo_len (n u h p : List Int) (d : Nat) : ∀ i acc, (claimsGo n u h p d i acc).length = acc.length + d := by
  induction d with
  | zero => intro i acc; rfl
  | succ d ih => intro i acc; simp [claimsGo, ih]; omega
def ClaimsOfR (n s u h p : List Int) : List Int × Bool := if OkCase n s u h ∧ Fits n p 9999 then (claimsGo n u h p n.length 0 [], true) else ([], false)
theorem ClaimsOfR_len (n s u h p : List Int) : (ClaimsOfR n s u h p).1.length ≤ 2000 := by
  unfold ClaimsOfR; split
  · rename_i c; show (claimsGo n u h p n.length 0 []).length ≤ 2000; rw [claimsGo_len]; have := c.1.1; simp; omega
  · simp

/-! total -/
theorem total_l0 (l : List Int) (i : Nat) (h1 : i ≤ l.length) (hl : l.length ≤ 2000) (hb : ∀ x ∈ l, 0 ≤ x ∧ x ≤ 1000000000) :
    Ev (fun k => impl_total.l0 k (l.take i).sum l (l.length : Int) (i : Int)) l.sum := by
  refine ev_succ ?_
  by_cases h : i < l.length
  · have a := sum_take_bound l i 1000000000 hb 2000 hl (by omega)
    have b := sum_take_bound l (i + 1) 1000000000 hb 2000 hl (by omega)
    rw [sum_take_succ l i h] at b
    simp (disch := omega) only [impl_total.l0, if_pos, w64]
    rw [← sum_take_succ l i h]
    exact total_l0 l (i + 1) (by omega) hl hb
  · simp (disch := omega) only [impl_total.l0, if_neg]
    exact ev_now (by rw [List.take_of_length_le (by omega)])
 termination_by l.length - i
theorem total_ev (l : List Int) (hl : l.length ≤ 2000) (hb : ∀ x ∈ l, 0 ≤ x ∧ x ≤ 1000000000) : Ev (fun k => impl_total.f k l) l.sum := by
  have h := total_l0 l 0 (by omega) hl hb
  simpa [impl_total.f] using h

/-! Case_rate -/
theorem Case_rate_ev (n s u h : List Int) (c : OkCase n s u h) (i t : Nat) (hi : i < n.length) (hit : i ≤ t) (ht : t ≤ n.length) : Ev (fun k => impl_Case_rate.f k n s u h (i : Int) (t : Int)) (rateR u h i t) := by
  have hl := c.1
  have b := rateR_bound c i t hi
  unfold impl_Case_rate.f
  refine ev_ifp (by omega) (ev_ifp (by omega) (ev_ifp (by omega) (ev_ifp (by omega) ?_)))
  rw [Int.toNat_natCast, Int.toNat_natCast]
  refine ev_bind (total_ev _ (by rw [List.length_drop, List.length_take]; omega) (fun x hx => by have := c.2.2.2.2 x (List.mem_of_mem_take (List.mem_of_mem_drop hx)); omega)) (ev_now ?_)
  show wrap64 (rateR u h i t) = rateR u h i t
  exact w64 (by omega) (by omega)

/-! Case_claim -/
theorem Case_claim_l0 (n s u h p : List Int) (c : OkCase n s u h) (hp : p.length ≤ n.length) (i : Nat) (d : Nat) : ∀ (t : Nat) (acc : Int), i ≤ t → t + d = p.length → Ev (fun k => impl_Case_claim.l0 k (i : Int) p acc (t : Int) n s u h) (claimGo n u h p i d t acc) := by
  have hl := c.1
  induction d with
  | zero =>
    intro t acc hi ht
    refine ev_succ ?_
    simp (disch := omega) only [impl_Case_claim.l0, if_neg]
    exact ev_now rfl
  | succ d ih =>
    intro t acc hi ht
    refine ev_succ ?_
    simp only [impl_Case_claim.l0]
    refine ev_ifp (by omega) (ev_ifp (by omega) (ev_ifp (by omega) (ev_bind (Case_rate_ev n s u h c i t (by omega) (by omega) (by omega)) ?_)))
    rw [w64 (x := (t : Int) + 1) (by omega) (by omega)]
    exact ih (t + 1) _ (by omega) (by omega)
theorem Case_claim_ev (n s u h p : List Int) (c : OkCase n s u h) (hp : p.length ≤ n.length) (i : Nat) (hi : i ≤ p.length) : Ev (fun k => impl_Case_claim.f k n s u h (i : Int) p) (claimR n u h p i) :=
  Case_claim_l0 n s u h p c hp i (p.length - i) i 0 (by omega) (by omega)

/-! within -/
theorem within_eq (a b c : Int) : impl_within.f a b c = some (decide (b ≤ a ∧ a ≤ c)) := by
  unfold impl_within.f
  by_cases h : a ≥ b
  · rw [if_pos h]; congr 1; rw [decide_eq_decide]; omega
  · rw [if_neg h]; congr 1; symm; rw [decide_eq_false_iff_not]; omega

/-! allWithin -/
theorem allWithin_l0 (l : List Int) (lo hi : Int) (i : Nat) (h1 : i ≤ l.length) (hl : l.length ≤ 2000000) :
    Ev (fun k => impl_allWithin.l0 k lo hi l (l.length : Int) (i : Int)) (decide (∀ x ∈ l.drop i, lo ≤ x ∧ x ≤ hi)) := by
  refine ev_succ ?_
  by_cases h : i < l.length
  · simp (disch := omega) only [impl_allWithin.l0, if_pos, within_eq, Option.bind_some, w64]
    rw [drop_rd l i h]
    by_cases c : lo ≤ rd l i ∧ rd l i ≤ hi
    · refine ev_ifp (by simpa using c) ?_
      refine ev_to (allWithin_l0 l lo hi (i + 1) (by omega) hl) ?_
      rw [decide_eq_decide]; simp [c]
    · refine ev_ifn (by simpa using c) (ev_now ?_)
      symm; rw [decide_eq_false_iff_not]; simp [c]
  · simp (disch := omega) only [impl_allWithin.l0, if_neg]
    exact ev_now (by simp [List.drop_eq_nil_of_le (show l.length ≤ i by omega)])
 termination_by l.length - i
theorem allWithin_ev (l : List Int) (lo hi : Int) (hl : l.length ≤ 2000000) : Ev (fun k => impl_allWithin.f k l lo hi) (decide (∀ x ∈ l, lo ≤ x ∧ x ≤ hi)) := by
  have h := allWithin_l0 l lo hi 0 (by omega) hl
  simpa [impl_allWithin.f] using h

/-! IsCase -/
theorem IsCase_ev (n s u h : List Int) (hn : n.length ≤ 2000000) (hs : s.length ≤ 2000000) (hu : u.length ≤ 2000000) (hh : h.length ≤ 2000000) : Ev (fun k => impl_IsCase.f k n s u h) (decide (OkCase n s u h)) := by
  unfold impl_IsCase.f
  by_cases c : n.length ≤ 8 ∧ s.length = n.length ∧ u.length = n.length ∧ h.length = n.length
  · refine ev_ifp (by omega) (ev_ifp (by omega) (ev_ifp (by omega) (ev_ifp (by omega) (ev_bind (allWithin_ev n 0 20 hn) ?_))))
    by_cases c1 : ∀ x ∈ n, 0 ≤ x ∧ x ≤ 20
    · refine ev_ifp (by simpa using c1) (ev_bind (allWithin_ev s 0 99 hs) ?_)
      by_cases c2 : ∀ x ∈ s, 0 ≤ x ∧ x ≤ 99
      · refine ev_ifp (by simpa using c2) (ev_bind (allWithin_ev u 0 9 hu) ?_)
        by_cases c3 : ∀ x ∈ u, 0 ≤ x ∧ x ≤ 9
        · refine ev_ifp (by simpa using c3) (ev_bind (allWithin_ev h 0 9 hh) (ev_now ?_))
          rw [decide_eq_decide]
          exact ⟨fun z => ⟨c, c1, c2, c3, z⟩, fun z => z.2.2.2.2⟩
        · refine ev_ifn (by simpa using c3) (ev_now ?_)
          symm; rw [decide_eq_false_iff_not]; exact fun z => c3 z.2.2.2.1
      · refine ev_ifn (by simpa using c2) (ev_now ?_)
        symm; rw [decide_eq_false_iff_not]; exact fun z => c2 z.2.2.1
    · refine ev_ifn (by simpa using c1) (ev_now ?_)
      symm; rw [decide_eq_false_iff_not]; exact fun z => c1 z.2.1
  · have hf : decide (OkCase n s u h) = false := by rw [decide_eq_false_iff_not]; exact fun z => c z.1
    rw [hf]
    by_cases a : (n.length : Int) ≤ 8
    · refine ev_ifp a ?_
      by_cases b : (s.length : Int) = n.length
      · refine ev_ifp b ?_
        by_cases d : (u.length : Int) = n.length
        · exact ev_ifp d (ev_ifn (fun e => c ⟨by omega, by omega, by omega, by omega⟩) (ev_now rfl))
        · exact ev_ifn d (ev_now rfl)
      · exact ev_ifn b (ev_now rfl)
    · exact ev_ifn a (ev_now rfl)

/-! ClaimsOf -/
theorem ClaimsOf_l0 (n s u h p : List Int) (c : OkCase n s u h) (f : Fits n p 9999) (d : Nat) : ∀ (i : Nat) (acc : List Int), i + d = n.length → acc.length ≤ i → Ev (fun k => impl_ClaimsOf.l0 k p acc (p.length : Int) (i : Int) n s u h) (claimsGo n u h p d i acc, true) := by
  have cl := c.1
  have fl := f.2
  induction d with
  | zero =>
    intro i acc hi ha
    refine ev_succ ?_
    simp (disch := omega) only [impl_ClaimsOf.l0, if_neg]
    exact ev_now rfl
  | succ d ih =>
    intro i acc hi ha
    refine ev_succ ?_
    simp only [impl_ClaimsOf.l0]
    refine ev_ifp (by omega) (ev_bind (Case_claim_ev n s u h p c (by omega) i (by omega)) (ev_ifp (by omega) ?_))
    rw [w64 (x := (i : Int) + 1) (by omega) (by omega)]
    exact ih (i + 1) _ (by omega) (by simp; omega)
theorem arePrices2_ev (n s u h p : List Int) (hp : p.length ≤ 2000000) : Ev (fun k => impl_Case_arePrices.f k n s u h p) (decide (Fits n p 9999)) := by
  unfold impl_Case_arePrices.f
  by_cases a : (p.length : Int) = n.length
  · refine ev_ifp a (ev_bind (allWithin_ev p 0 9999 hp) (ev_now ?_))
    rw [decide_eq_decide]; exact ⟨fun z => ⟨z, a⟩, fun z => z.1⟩
  · refine ev_ifn a (ev_now ?_)
    symm; rw [decide_eq_false_iff_not]; exact fun z => a z.2
theorem ClaimsOf_ev (n s u h p : List Int) (hp : p.length ≤ 2000000) (hn : n.length ≤ 2000000) (hs : s.length ≤ 2000000) (hu : u.length ≤ 2000000) (hh : h.length ≤ 2000000) : Ev (fun k => impl_ClaimsOf.f k n s u h p) (ClaimsOfR n s u h p) := by
  unfold impl_ClaimsOf.f ClaimsOfR
  refine ev_bind (IsCase_ev n s u h hn hs hu hh) ?_
  by_cases c : OkCase n s u h
  · refine ev_ifp (by simpa using c) (ev_bind (arePrices2_ev n s u h p hp) (ev_succ ?_))
    simp only [impl_ClaimsOf.j0]
    by_cases f : Fits n p 9999
    · rw [if_pos ⟨c, f⟩]; exact ev_ifn (by simpa using f) (ClaimsOf_l0 n s u h p c f n.length 0 [] (by omega) (by simp))
    · rw [if_neg (fun z => f z.2)]; exact ev_ifp (by simpa using f) (ev_now rfl)
  · rw [if_neg (fun z => c z.1)]
    refine ev_ifn (by simpa using c) (ev_succ ?_)
    simp only [impl_ClaimsOf.j0]
    exact ev_ifp trivial (ev_now rfl)

/-! l3Rate -/
theorem l3Rate_l0 (n s u h : List Int) (c : OkCase n s u h) (i t : Nat) (hi : i < n.length) (ht : t ≤ n.length) (d : Nat) : ∀ j : Nat, i ≤ j → j + d = t → Ev (fun k => spec_l3Rate.l0 k (t : Int) (rateR u h i j) (j : Int) n s u h) (rateR u h i t) := by
  have hl := c.1
  induction d with
  | zero =>
    intro j hj he
    obtain rfl : j = t := by omega
    refine ev_succ ?_
    simp (disch := omega) only [spec_l3Rate.l0, if_neg]
    exact ev_now rfl
  | succ d ih =>
    intro j hj he
    have e : rateR u h i j + rd h (j : Int) = rateR u h i (j + 1) := by
      unfold rateR; rw [seg_succ h i j hj (by omega)]; omega
    have b := rateR_bound c i (j + 1) hi
    refine ev_succ ?_
    simp (disch := omega) only [spec_l3Rate.l0, if_pos, e, w64]
    exact ih (j + 1) (by omega) (by omega)
theorem l3Rate_ev (n s u h : List Int) (c : OkCase n s u h) (i t : Nat) (hi : i < n.length) (hit : i ≤ t) (ht : t ≤ n.length) : Ev (fun k => spec_l3Rate.f k n s u h (i : Int) (t : Int)) (rateR u h i t) := by
  have hl := c.1
  unfold spec_l3Rate.f
  refine ev_ifp (by omega) (ev_ifp (by omega) ?_)
  have := l3Rate_l0 n s u h c i t hi ht (t - i) i (Nat.le_refl _) (by omega)
  rwa [show rateR u h i i = rd u (i : Int) by unfold rateR; rw [seg_self]; omega] at this

/-! l1Most -/
theorem l1Most_eq (a b : Int) : spec_l1Most.f a b = some (mx a b) := by
  unfold spec_l1Most.f mx
  split <;> split <;> first | rfl | (congr 1; omega)

/-! l3Claim -/
theorem l3Claim_l0 (n s u h p : List Int) (c : OkCase n s u h) (hp : p.length ≤ n.length) (i : Nat) (d : Nat) : ∀ (t : Nat) (acc : Int), i ≤ t → t + d = p.length → Ev (fun k => spec_l3Claim.l0 k p (i : Int) acc (t : Int) n s u h) (claimGo n u h p i d t acc) := by
  have hl := c.1
  induction d with
  | zero =>
    intro t acc hi ht
    refine ev_succ ?_
    simp (disch := omega) only [spec_l3Claim.l0, if_neg]
    exact ev_now rfl
  | succ d ih =>
    intro t acc hi ht
    refine ev_succ ?_
    simp only [spec_l3Claim.l0, l1Most_eq, Option.bind_some]
    refine ev_ifp (by omega) (ev_ifp (by omega) (ev_ifp (by omega) (ev_bind (l3Rate_ev n s u h c i t (by omega) (by omega) (by omega)) ?_)))
    rw [w64 (x := (t : Int) + 1) (by omega) (by omega)]
    exact ih (t + 1) _ (by omega) (by omega)
theorem l3Claim_ev (n s u h p : List Int) (c : OkCase n s u h) (hp : p.length ≤ n.length) (i : Nat) (hi : i ≤ p.length) : Ev (fun k => spec_l3Claim.f k n s u h p (i : Int)) (claimR n u h p i) :=
  l3Claim_l0 n s u h p c hp i (p.length - i) i 0 (by omega) (by omega)

/-! l1In -/
theorem l1In_eq (a b c : Int) : spec_l1In.f a b c = some (decide (b ≤ a ∧ a ≤ c)) := by
  unfold spec_l1In.f
  by_cases h : a ≥ b
  · rw [if_pos h]; congr 1; rw [decide_eq_decide]; omega
  · rw [if_neg h]; congr 1; symm; rw [decide_eq_false_iff_not]; omega

/-! l2Row -/
theorem l2Row_l0 (l : List Int) (n hi : Int) (i : Nat) (h1 : i ≤ l.length) (hl : l.length ≤ 2000000) :
    Ev (fun k => spec_l2Row.l0 k l n hi (i : Int)) (decide ((∀ x ∈ l.drop i, 0 ≤ x ∧ x ≤ hi) ∧ (l.length : Int) = n)) := by
  refine ev_succ ?_
  by_cases h : i < l.length
  · simp (disch := omega) only [spec_l2Row.l0, if_pos, l1In_eq, Option.bind_some, w64]
    rw [drop_rd l i h]
    by_cases c : 0 ≤ rd l i ∧ rd l i ≤ hi
    · refine ev_ifp (by simpa using c) ?_
      refine ev_to (l2Row_l0 l n hi (i + 1) (by omega) hl) ?_
      rw [decide_eq_decide]; simp [c]
    · refine ev_ifn (by simpa using c) (ev_now ?_)
      symm; rw [decide_eq_false_iff_not]; simp [c]
  · simp (disch := omega) only [spec_l2Row.l0, if_neg]
    exact ev_now (by
      rw [List.drop_eq_nil_of_le (show l.length ≤ i by omega)]
      rw [Bool.eq_iff_iff]; simp)
 termination_by l.length - i
theorem l2Row_ev (l : List Int) (n hi : Int) (hl : l.length ≤ 2000000) : Ev (fun k => spec_l2Row.f k l n hi) (decide ((∀ x ∈ l, 0 ≤ x ∧ x ≤ hi) ∧ (l.length : Int) = n)) := by
  have h := l2Row_l0 l n hi 0 (by omega) hl
  simpa [spec_l2Row.f] using h

/-! l2Good -/
theorem l2Good_ev (n s u h : List Int) (hn : n.length ≤ 2000000) (hs : s.length ≤ 2000000) (hu : u.length ≤ 2000000) (hh : h.length ≤ 2000000) : Ev (fun k => spec_l2Good.f k n s u h) (decide (OkCase n s u h)) := by
  unfold spec_l2Good.f
  by_cases c : (n.length : Int) ≤ 8
  · refine ev_ifp c (ev_bind (l2Row_ev n _ 20 hn) ?_)
    by_cases c1 : ∀ x ∈ n, 0 ≤ x ∧ x ≤ 20
    · refine ev_ifp (by simpa using c1) (ev_bind (l2Row_ev s _ 99 hs) ?_)
      by_cases c2 : (∀ x ∈ s, 0 ≤ x ∧ x ≤ 99) ∧ (s.length : Int) = n.length
      · refine ev_ifp (by rw [decide_eq_true_iff]; exact c2) (ev_bind (l2Row_ev u _ 9 hu) ?_)
        by_cases c3 : (∀ x ∈ u, 0 ≤ x ∧ x ≤ 9) ∧ (u.length : Int) = n.length
        · refine ev_ifp (by rw [decide_eq_true_iff]; exact c3) (ev_bind (l2Row_ev h _ 9 hh) (ev_now ?_))
          rw [decide_eq_decide]
          exact ⟨fun z => ⟨⟨by omega, by omega, by omega, by omega⟩, c1, c2.1, c3.1, z.1⟩, fun z => ⟨z.2.2.2.2, by have := z.1.2.2.2; omega⟩⟩
        · refine ev_ifn (by rw [decide_eq_true_iff]; exact c3) (ev_now ?_)
          symm; rw [decide_eq_false_iff_not]; exact fun z => c3 ⟨z.2.2.2.1, by have := z.1.2.2.1; omega⟩
      · refine ev_ifn (by rw [decide_eq_true_iff]; exact c2) (ev_now ?_)
        symm; rw [decide_eq_false_iff_not]; exact fun z => c2 ⟨z.2.2.1, by have := z.1.2.1; omega⟩
    · refine ev_ifn (by simpa using c1) (ev_now ?_)
      symm; rw [decide_eq_false_iff_not]; exact fun z => c1 z.2.1
  · refine ev_ifn c (ev_now ?_)
    symm; rw [decide_eq_false_iff_not]; exact fun z => c (by have := z.1.1; omega)

/-! l3Prices -/
theorem l3Prices_ev (n s u h p : List Int) (hp : p.length ≤ 2000000) (hn : n.length ≤ 2000000) (hs : s.length ≤ 2000000) (hu : u.length ≤ 2000000) (hh : h.length ≤ 2000000) : Ev (fun k => spec_l3Prices.f k n s u h p) (decide (OkCase n s u h ∧ Fits n p 9999)) := by
  unfold spec_l3Prices.f
  refine ev_bind (l2Good_ev n s u h hn hs hu hh) ?_
  by_cases c : OkCase n s u h
  · refine ev_ifp (by simpa using c) (ev_bind (l2Row_ev p _ 9999 hp) (ev_now ?_))
    rw [decide_eq_decide]; exact ⟨fun z => ⟨c, z⟩, fun z => z.2⟩
  · refine ev_ifn (by simpa using c) (ev_now ?_)
    symm; rw [decide_eq_false_iff_not]; exact fun z => c z.1

/-! spec_ClaimsOf -/
theorem spec_ClaimsOf_l0 (n s u h p : List Int) (c : OkCase n s u h) (f : Fits n p 9999) (d : Nat) : ∀ (i : Nat) (acc : List Int), i + d = n.length → acc.length ≤ i → Ev (fun k => spec_ClaimsOf.l0 k p acc (i : Int) n s u h) (claimsGo n u h p d i acc, true) := by
  have cl := c.1
  have fl := f.2
  induction d with
  | zero =>
    intro i acc hi ha
    refine ev_succ ?_
    simp (disch := omega) only [spec_ClaimsOf.l0, if_neg]
    exact ev_now rfl
  | succ d ih =>
    intro i acc hi ha
    refine ev_succ ?_
    simp only [spec_ClaimsOf.l0]
    refine ev_ifp (by omega) (ev_bind (l3Claim_ev n s u h p c (by omega) i (by omega)) (ev_ifp (by omega) ?_))
    rw [w64 (x := (i : Int) + 1) (by omega) (by omega)]
    exact ih (i + 1) _ (by omega) (by simp; omega)
theorem spec_ClaimsOf_ev (n s u h p : List Int) (hp : p.length ≤ 2000000) (hn : n.length ≤ 2000000) (hs : s.length ≤ 2000000) (hu : u.length ≤ 2000000) (hh : h.length ≤ 2000000) : Ev (fun k => spec_ClaimsOf.f k n s u h p) (ClaimsOfR n s u h p) := by
  unfold spec_ClaimsOf.f ClaimsOfR
  simp only [Option.bind_some]
  refine ev_bind (l3Prices_ev n s u h p hp hn hs hu hh) ?_
  by_cases c : OkCase n s u h ∧ Fits n p 9999
  · rw [if_pos c]; exact ev_ifp (by rw [decide_eq_true_iff]; exact c) (spec_ClaimsOf_l0 n s u h p c.1 c.2 n.length 0 [] (by omega) (by simp))
  · rw [if_neg c]; exact ev_ifn (by rw [decide_eq_true_iff]; exact c) (ev_now rfl)

/-! LAW FnExactClaimsOf -/
theorem FnExactClaimsOf (n s u h p : List Int) (mn : n.length ≤ maxLen) (ms : s.length ≤ maxLen) (mu : u.length ≤ maxLen) (mh : h.length ≤ maxLen) (_ : p.length ≤ maxLen) : ∃ k, laws_FnExactClaimsOf.f k n s u h p = some true := by
  refine Ev.rounds ?_
  unfold laws_FnExactClaimsOf.f
  by_cases h0 : (p.length : Int) > 1048576
  · exact ev_ifp h0 (ev_now rfl)
  refine ev_ifn h0 ?_
  have hp : p.length ≤ 2000000 := by omega
  rcases szCase_eq n s u h mn ms mu mh 1048576 (by omega) (by omega) with z | ⟨z, zl⟩
  · rw [z]; simp only [Option.bind_some]; exact ev_ifp (by omega) (ev_now rfl)
  rw [z]; simp only [Option.bind_some]
  refine ev_ifn (by omega) ?_
  clear z mn ms mu mh
  have hn : n.length ≤ 2000000 := by omega
  have hs_ : s.length ≤ 2000000 := by omega
  have hu : u.length ≤ 2000000 := by omega
  have hh : h.length ≤ 2000000 := by omega
  have hs := spec_ClaimsOf_ev n s u h p hp hn hs_ hu hh
  have hi := ClaimsOf_ev n s u h p hp hn hs_ hu hh
  have hR := ClaimsOfR_len n s u h p
  generalize ClaimsOfR n s u h p = R at hs hi hR
  repeat (first
    | exact ev_now rfl
    | refine ev_bind hs ?_
    | refine ev_bind hi ?_
    | (refine ev_bind (toIntS_ev _ ?_) ?_; first | assumption | omega)
    | (refine ev_bind (eqIntS_ev _ ?_) ?_; first | assumption | omega)
    | (refine ev_bind (toCase_ev _ _ _ _ ?_ ?_ ?_ ?_) ?_; assumption; assumption; assumption; assumption)
    | (refine ev_bind (eqCase_ev _ _ _ _ ?_ ?_ ?_ ?_) ?_; assumption; assumption; assumption; assumption)
    | (refine ev_bind (markCase_ev _ _ _ _ _ ?_ ?_ ?_ ?_ ?_ ?_) ?_; omega; omega; assumption; assumption; assumption; assumption)
    | (refine ev_bind (markIntS_ev _ _ ?_ ?_ ?_) ?_; omega; omega; first | assumption | omega)
    | (refine ev_bind (heldIntS_ev _ _ ?_ ?_ ?_) ?_; omega; omega; first | assumption | omega)
    | (refine ev_ifp ?_ ?_; first | rfl | omega | focus (simp; done))
    | (refine ev_ifn ?_ ?_; first | omega | focus (simp; done))
    | (refine ev_succ ?_; simp only [laws_FnExactClaimsOf.j0])
    | (refine ev_succ ?_; simp only [laws_FnExactClaimsOf.j1])
    | (refine ev_succ ?_; simp only [laws_FnExactClaimsOf.j2]))


end Go.Proofs.Ytkkockpnnoifeaa.Pure
