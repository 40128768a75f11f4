/- The pure statement of the law FnExactLatestStart: what the program's function answers is what the reference answers, for all arguments of the kinds of its parameters. -/
import Derived.Test.YtkkockpnnoifeaaQFnExactLatestStartx5
import Derived.Test.YtkkockpnnoifeaaBase
namespace Go.Proofs.Ytkkockpnnoifeaa.Pure
set_option linter.unusedSimpArgs false
open Go.RowKit Go.Proofs.Ytkkockpnnoifeaa.PFnExactLatestStart Go.Proofs.YtkkockpnnoifeaaW.PrintWords Go.Proofs.YtkkockpnnoifeaaW.PrintLast Go.Proofs.Ytkkockpnnoifeaa.Base

/-! szIntS -/
theorem szIntS_eq (l : List Int) (a : Int) (h : l.length ≤ maxLen) (h0 : 0 ≤ a) (h1 : a ≤ 1048576) : laws_szIntS.f l a = some (if a < l.length then -1 else a - l.length) := by
  unfold maxLen at h
  unfold laws_szIntS.f
  rw [w64 (by omega) (by omega)]
  by_cases c : a < l.length
  · rw [if_pos c, if_pos (by omega)]
  · rw [if_neg c, if_neg (by omega)]

/-! szCase -/
/-- Either the case is too large, and the law says nothing, or its four lists are short. -/
theorem szCase_eq (n s u h : List Int) (hn : n.length ≤ maxLen) (hs : s.length ≤ maxLen) (hu : u.length ≤ maxLen) (hh : h.length ≤ maxLen) (a : Int) (h0 : 0 ≤ a) (h1 : a ≤ 1048576) :
    laws_szCase.f n s u h a = some (-1) ∨ (laws_szCase.f n s u h a = some (a - n.length - s.length - u.length - h.length) ∧ (n.length : Int) + s.length + u.length + h.length ≤ a) := by
  unfold laws_szCase.f
  rw [szIntS_eq n a hn h0 h1]
  by_cases c1 : a < n.length
  · left; rw [if_pos c1]; rfl
  rw [if_neg c1, Option.bind_some, if_neg (by omega), szIntS_eq s _ hs (by omega) (by omega)]
  by_cases c2 : a - n.length < s.length
  · left; rw [if_pos c2]; rfl
  rw [if_neg c2, Option.bind_some, if_neg (by omega), szIntS_eq u _ hu (by omega) (by omega)]
  by_cases c3 : a - n.length - s.length < u.length
  · left; rw [if_pos c3]; rfl
  rw [if_neg c3, Option.bind_some, if_neg (by omega), szIntS_eq h _ hh (by omega) (by omega)]
  by_cases c4 : a - n.length - s.length - u.length < h.length
  · left; rw [if_pos c4]; rfl
  right
  rw [if_neg c4, Option.bind_some, if_neg (by omega)]
  exact ⟨rfl, by omega⟩

/-! toIntS -/
theorem toIntS_l0 (l acc : List Int) (i : Nat) (hi : i ≤ l.length) (hl : l.length ≤ 2000000) (ha : acc.length = l.length) (hg : ∀ j, j < i → acc[j]? = l[j]?) :
    Ev (fun k => laws_toIntS.l0 k l acc (i : Int)) l := by
  refine ev_succ ?_
  by_cases h : i < l.length
  · simp (disch := omega) only [laws_toIntS.l0, if_pos, w64, Int.toNat_natCast]
    refine toIntS_l0 l (acc.set i (rd l i)) (i + 1) (by omega) hl (by simpa using ha) (fun j hj => ?_)
    rw [set_get _ _ _ _ (by omega)]
    by_cases e : j = i
    · subst e; rw [if_pos rfl, get_rd l j h]
    · rw [if_neg e]; exact hg j (by omega)
  · simp (disch := omega) only [laws_toIntS.l0, if_neg]
    exact ev_now (eq_of_get ha fun j hj => hg j (by omega))
 termination_by l.length - i
theorem toIntS_ev (l : List Int) (hl : l.length ≤ 2000000) : Ev (fun k => laws_toIntS.f k l) l := by
  simp (disch := omega) only [laws_toIntS.f, if_pos, Int.toNat_natCast]
  exact toIntS_l0 l _ 0 (by omega) hl (by simp) (fun j hj => by omega)

/-! toCase -/
theorem toCase_ev (n s u h : List Int) (hn : n.length ≤ 2000000) (hs : s.length ≤ 2000000) (hu : u.length ≤ 2000000) (hh : h.length ≤ 2000000) : Ev (fun k => laws_toCase.f k n s u h) (n, s, u, h) := by
  unfold laws_toCase.f
  exact ev_bind (toIntS_ev n hn) (ev_bind (toIntS_ev s hs) (ev_bind (toIntS_ev u hu) (ev_bind (toIntS_ev h hh) (ev_now rfl))))

/-! eqIntS -/
theorem eqIntS_l0 (l : List Int) (i : Nat) (hi : i ≤ l.length) (hl : l.length ≤ 2000000) : Ev (fun k => laws_eqIntS.l0 k l l (i : Int)) true := by
  refine ev_succ ?_
  by_cases h : i < l.length
  · simp (disch := omega) only [laws_eqIntS.l0, if_pos, w64]
    exact eqIntS_l0 l (i + 1) (by omega) hl
  · simp (disch := omega) only [laws_eqIntS.l0, if_neg]
    exact ev_now rfl
 termination_by l.length - i
theorem eqIntS_ev (l : List Int) (hl : l.length ≤ 2000000) : Ev (fun k => laws_eqIntS.f k l l) true := by
  simp (disch := omega) only [laws_eqIntS.f, if_pos]
  exact eqIntS_l0 l 0 (by omega) hl

/-! eqCase -/
theorem eqCase_ev (n s u h : List Int) (hn : n.length ≤ 2000000) (hs : s.length ≤ 2000000) (hu : u.length ≤ 2000000) (hh : h.length ≤ 2000000) : Ev (fun k => laws_eqCase.f k n s u h n s u h) true := by
  unfold laws_eqCase.f
  exact ev_bind (eqIntS_ev n hn) (ev_ifp rfl (ev_bind (eqIntS_ev s hs) (ev_ifp rfl (ev_bind (eqIntS_ev u hu) (ev_ifp rfl (ev_bind (eqIntS_ev h hh) (ev_ifp rfl (ev_now rfl))))))))

/-! markIntS -/
theorem markIntS_l0 (l : List Int) (m : Int) (i : Nat) (acc : List Int) (hm : 0 ≤ m) (hm2 : m ≤ 100000000) (hi : i ≤ l.length) (hl : l.length ≤ 2000000) (ha : acc.length = l.length) (hg : ∀ j, j < i → acc[j]? = (up m l.length)[j]?) :
    Ev (fun k => laws_markIntS.l0 k acc (m + i) (i : Int)) (m + l.length, up m l.length) := by
  refine ev_succ ?_
  by_cases h : i < l.length
  · simp (disch := omega) only [laws_markIntS.l0, if_pos, w64, Int.toNat_natCast]
    rw [show m + (i : Int) + 1 = m + ((i + 1 : Nat) : Int) by omega, show (i : Int) + 1 = ((i + 1 : Nat) : Int) by omega]
    refine markIntS_l0 l m (i + 1) (acc.set i (m + i)) hm hm2 (by omega) hl (by simpa using ha) (fun j hj => ?_)
    rw [set_get _ _ _ _ (by omega)]
    by_cases e : j = i
    · subst e; rw [if_pos rfl, up_get m _ _ h]
    · rw [if_neg e]; exact hg j (by omega)
  · simp (disch := omega) only [laws_markIntS.l0, if_neg]
    obtain rfl : i = l.length := by omega
    exact ev_now (by rw [eq_of_get (m := up m l.length) (by rw [up_length, ha]) (fun j hj => hg j (by omega))])
 termination_by l.length - i
theorem markIntS_ev (l : List Int) (m : Int) (hm : 0 ≤ m) (hm2 : m ≤ 100000000) (hl : l.length ≤ 2000000) : Ev (fun k => laws_markIntS.f k l m) (m + l.length, up m l.length) := by
  have h := markIntS_l0 l m 0 l hm hm2 (by omega) hl rfl (fun j hj => by omega)
  simpa [laws_markIntS.f] using h

/-! markCase -/
theorem markCase_ev (n s u h : List Int) (m : Int) (h0 : 0 ≤ m) (h1 : m ≤ 10000000) (hn : n.length ≤ 2000000) (hs : s.length ≤ 2000000) (hu : u.length ≤ 2000000) (hh : h.length ≤ 2000000) :
    Ev (fun k => laws_markCase.f k n s u h m) (m + n.length + s.length + u.length + h.length, up m n.length, up (m + n.length) s.length, up (m + n.length + s.length) u.length, up (m + n.length + s.length + u.length) h.length) := by
  unfold laws_markCase.f
  exact ev_bind (markIntS_ev n m h0 (by omega) hn) (ev_bind (markIntS_ev s _ (by omega) (by omega) hs) (ev_bind (markIntS_ev u _ (by omega) (by omega) hu) (ev_bind (markIntS_ev h _ (by omega) (by omega) hh) (ev_now rfl))))

/-! heldIntS -/
theorem heldIntS_l0 (n : Nat) (m : Int) (i : Nat) (hm : 0 ≤ m) (hm2 : m ≤ 100000000) (hi : i ≤ n) (hl : n ≤ 2000000) :
    Ev (fun k => laws_heldIntS.l0 k (up m n) (m + i) (i : Int)) (m + n) := by
  refine ev_succ ?_
  by_cases h : i < n
  · simp (disch := omega) only [laws_heldIntS.l0, up_length, if_pos, w64, up_rd m n i h]
    rw [show m + (i : Int) + 1 = m + ((i + 1 : Nat) : Int) by omega, show (i : Int) + 1 = ((i + 1 : Nat) : Int) by omega]
    exact heldIntS_l0 n m (i + 1) hm hm2 (by omega) hl
  · simp (disch := omega) only [laws_heldIntS.l0, up_length, if_neg]
    obtain rfl : i = n := by omega
    exact ev_now rfl
 termination_by n - i
theorem heldIntS_ev (n : Nat) (m : Int) (hm : 0 ≤ m) (hm2 : m ≤ 100000000) (hl : n ≤ 2000000) : Ev (fun k => laws_heldIntS.f k (up m n) m) (m + n) := by
  have h := heldIntS_l0 n m 0 hm hm2 (by omega) hl
  simpa [laws_heldIntS.f] using h

/-! seg -/
/-- The sum of the places i, .., j - 1 of a list. -/
def seg (l : List Int) (i j : Nat) : Int := ((l.take j).drop i).sum
theorem seg_self (l : List Int) (i : Nat) : seg l i i = 0 := by
  unfold seg; rw [List.drop_eq_nil_of_le (by rw [List.length_take]; omega)]; rfl
theorem seg_succ (l : List Int) (i j : Nat) (hij : i ≤ j) (hj : j < l.length) : seg l i (j + 1) = seg l i j + rd l (j : Int) := by
  unfold seg
  rw [take_succ_rd l j hj, List.drop_append_of_le_length (by rw [List.length_take]; omega), List.sum_append]; simp
theorem seg_bound (l : List Int) (i j : Nat) (m : Int) (h : ∀ x ∈ l, 0 ≤ x ∧ x ≤ m) (hl : l.length ≤ 8) (h0 : 0 ≤ m) : 0 ≤ seg l i j ∧ seg l i j ≤ m * 8 := by
  have hb := sum_bound ((l.take j).drop i) 0 m (fun x hx => h x (List.mem_of_mem_take (List.mem_of_mem_drop hx)))
  have hlen : (((l.take j).drop i).length : Int) ≤ 8 := by rw [List.length_drop, List.length_take]; omega
  have := Int.mul_le_mul_of_nonneg_left hlen h0
  unfold seg; omega
theorem seg_zero (l : List Int) (j : Nat) : seg l 0 j = (l.take j).sum := rfl

/-! bal -/
/-- The balance of amounts and needs before period t. -/
def bal (p n : List Int) (t : Nat) : Int := (p.take t).sum - (n.take t).sum
theorem bal_zero (p n : List Int) : bal p n 0 = 0 := by simp [bal]
theorem bal_succ (p n : List Int) (t : Nat) (hp : t < p.length) (hn : t < n.length) : bal p n (t + 1) = bal p n t + rd p (t : Int) - rd n (t : Int) := by
  unfold bal; rw [sum_take_succ p t hp, sum_take_succ n t hn]; omega
theorem bal_bound (p n : List Int) (t : Nat) (hp : ∀ x ∈ p, 0 ≤ x ∧ x ≤ 160) (hn : ∀ x ∈ n, 0 ≤ x ∧ x ≤ 20) (lp : p.length ≤ 8) (ln : n.length ≤ 8) : -160 ≤ bal p n t ∧ bal p n t ≤ 1280 := by
  have a := sum_take_bound p t 160 hp 8 lp (by omega)
  have b := sum_take_bound n t 20 hn 8 ln (by omega)
  unfold bal; omega

/-! OkCase -/
/-- A valid case: needs, setups, units, holds. -/
def OkCase (n s u h : List Int) : Prop := (n.length ≤ 8 ∧ s.length = n.length ∧ u.length = n.length ∧ h.length = n.length) ∧ (∀ x ∈ n, 0 ≤ x ∧ x ≤ 20) ∧ (∀ x ∈ s, 0 ≤ x ∧ x ≤ 99) ∧ (∀ x ∈ u, 0 ≤ x ∧ x ≤ 9) ∧ (∀ x ∈ h, 0 ≤ x ∧ x ≤ 9)
instance (n s u h : List Int) : Decidable (OkCase n s u h) := by unfold OkCase; infer_instance

/-! limits -/
/-- Whole numbers, as many as the case has periods, of 0 .. m. -/
def Fits (n l : List Int) (m : Int) : Prop := (∀ x ∈ l, 0 ≤ x ∧ x ≤ m) ∧ (l.length : Int) = n.length
instance (n l : List Int) (m : Int) : Decidable (Fits n l m) := by unfold Fits; infer_instance

/-! shortGo -/
def shortGo (l n : List Int) : Nat → Nat → Int × Int
  | 0, _ => (-1, 0)
  | d + 1, t => if bal l n (t + 1) < 0 then ((t : Int), -bal l n (t + 1)) else shortGo l n d (t + 1)
theorem shortGo_sign (l n : List Int) (d : Nat) : ∀ t, (shortGo l n d t).1 < 0 ∨ 0 ≤ (shortGo l n d t).1 := fun t => by omega

/-! lsGo -/
def lsGo (n l : List Int) : Nat → Int → List Int → List Int
  | 0, _, x => x
  | m + 1, q, x => lsGo n l m (wrap64 (wrap64 (q + rd n (m : Int)) - mn (rd l (m : Int)) (wrap64 (q + rd n (m : Int))))) (x.set m (mn (rd l (m : Int)) (wrap64 (q + rd n (m : Int)))))
theorem lsGo_len (n l : List Int) (m : Nat) : ∀ q x, (lsGo n l m q x).length = x.length := by
  induction m with
  | zero => intro q x; rfl
  | succ m ih => intro q x; simp [lsGo, ih]
theorem mn_comm (a b : Int) : mn a b = mn b a := by
  unfold mn; split <;> split <;> omega
theorem rd_set_same (x : List Int) (m : Nat) (v : Int) (h : m < x.length) : rd (x.set m v) (m : Int) = v := by
  rw [rd_get _ _ (by simpa using h)]; simp
def LatestStartR (n s u h l : List Int) : List Int × Bool := if (OkCase n s u h ∧ Fits n l 160) ∧ (shortGo l n n.length 0).1 < 0 then (lsGo n l n.length 0 (List.replicate n.length 0), true) else ([], false)
theorem LatestStartR_len (n s u h l : List Int) : (LatestStartR n s u h l).1.length ≤ 2000 := by
  unfold LatestStartR; split
  · rename_i c; show (lsGo n l n.length 0 (List.replicate n.length 0)).length ≤ 2000; rw [lsGo_len]; have := c.1.1.1; simp; omega
  · simp

/-! within -/
theorem within_eq (a b c : Int) : impl_within.f a b c = some (decide (b ≤ a ∧ a ≤ c)) := by
  unfold impl_within.f
  by_cases h : a ≥ b
  · rw [if_pos h]; congr 1; rw [decide_eq_decide]; omega
  · rw [if_neg h]; congr 1; symm; rw [decide_eq_false_iff_not]; omega

/-! allWithin -/
theorem allWithin_l0 (l : List Int) (lo hi : Int) (i : Nat) (h1 : i ≤ l.length) (hl : l.length ≤ 2000000) :
    Ev (fun k => impl_allWithin.l0 k lo hi l (l.length : Int) (i : Int)) (decide (∀ x ∈ l.drop i, lo ≤ x ∧ x ≤ hi)) := by
  refine ev_succ ?_
  by_cases h : i < l.length
  · simp (disch := omega) only [impl_allWithin.l0, if_pos, within_eq, Option.bind_some, w64]
    rw [drop_rd l i h]
    by_cases c : lo ≤ rd l i ∧ rd l i ≤ hi
    · refine ev_ifp (by simpa using c) ?_
      refine ev_to (allWithin_l0 l lo hi (i + 1) (by omega) hl) ?_
      rw [decide_eq_decide]; simp [c]
    · refine ev_ifn (by simpa using c) (ev_now ?_)
      symm; rw [decide_eq_false_iff_not]; simp [c]
  · simp (disch := omega) only [impl_allWithin.l0, if_neg]
    exact ev_now (by simp [List.drop_eq_nil_of_le (show l.length ≤ i by omega)])
 termination_by l.length - i
theorem allWithin_ev (l : List Int) (lo hi : Int) (hl : l.length ≤ 2000000) : Ev (fun k => impl_allWithin.f k l lo hi) (decide (∀ x ∈ l, lo ≤ x ∧ x ≤ hi)) := by
  have h := allWithin_l0 l lo hi 0 (by omega) hl
  simpa [impl_allWithin.f] using h

/-! IsCase -/
theorem IsCase_ev (n s u h : List Int) (hn : n.length ≤ 2000000) (hs : s.length ≤ 2000000) (hu : u.length ≤ 2000000) (hh : h.length ≤ 2000000) : Ev (fun k => impl_IsCase.f k n s u h) (decide (OkCase n s u h)) := by
  unfold impl_IsCase.f
  by_cases c : n.length ≤ 8 ∧ s.length = n.length ∧ u.length = n.length ∧ h.length = n.length
  · refine ev_ifp (by omega) (ev_ifp (by omega) (ev_ifp (by omega) (ev_ifp (by omega) (ev_bind (allWithin_ev n 0 20 hn) ?_))))
    by_cases c1 : ∀ x ∈ n, 0 ≤ x ∧ x ≤ 20
    · refine ev_ifp (by simpa using c1) (ev_bind (allWithin_ev s 0 99 hs) ?_)
      by_cases c2 : ∀ x ∈ s, 0 ≤ x ∧ x ≤ 99
      · refine ev_ifp (by simpa using c2) (ev_bind (allWithin_ev u 0 9 hu) ?_)
        by_cases c3 : ∀ x ∈ u, 0 ≤ x ∧ x ≤ 9
        · refine ev_ifp (by simpa using c3) (ev_bind (allWithin_ev h 0 9 hh) (ev_now ?_))
          rw [decide_eq_decide]
          exact ⟨fun z => ⟨c, c1, c2, c3, z⟩, fun z => z.2.2.2.2⟩
        · refine ev_ifn (by simpa using c3) (ev_now ?_)
          symm; rw [decide_eq_false_iff_not]; exact fun z => c3 z.2.2.2.1
      · refine ev_ifn (by simpa using c2) (ev_now ?_)
        symm; rw [decide_eq_false_iff_not]; exact fun z => c2 z.2.2.1
    · refine ev_ifn (by simpa using c1) (ev_now ?_)
      symm; rw [decide_eq_false_iff_not]; exact fun z => c1 z.2.1
  · have hf : decide (OkCase n s u h) = false := by rw [decide_eq_false_iff_not]; exact fun z => c z.1
    rw [hf]
    by_cases a : (n.length : Int) ≤ 8
    · refine ev_ifp a ?_
      by_cases b : (s.length : Int) = n.length
      · refine ev_ifp b ?_
        by_cases d : (u.length : Int) = n.length
        · exact ev_ifp d (ev_ifn (fun e => c ⟨by omega, by omega, by omega, by omega⟩) (ev_now rfl))
        · exact ev_ifn d (ev_now rfl)
      · exact ev_ifn b (ev_now rfl)
    · exact ev_ifn a (ev_now rfl)

/-! areLimits -/
theorem areLimits_ev (n s u h l : List Int) (hl : l.length ≤ 2000000) (hn : n.length ≤ 2000000) (hs : s.length ≤ 2000000) (hu : u.length ≤ 2000000) (hh : h.length ≤ 2000000) : Ev (fun k => impl_areLimits.f k n s u h l) (decide (OkCase n s u h ∧ Fits n l 160)) := by
  unfold impl_areLimits.f
  refine ev_bind (IsCase_ev n s u h hn hs hu hh) ?_
  by_cases c : OkCase n s u h
  · refine ev_ifp (by simpa using c) ?_
    by_cases a : (l.length : Int) = n.length
    · refine ev_ifp a (ev_bind (allWithin_ev l 0 160 hl) (ev_now ?_))
      rw [decide_eq_decide]; exact ⟨fun z => ⟨c, z, a⟩, fun z => z.2.1⟩
    · refine ev_ifn a (ev_now ?_)
      symm; rw [decide_eq_false_iff_not]; exact fun z => a z.2.2
  · refine ev_ifn (by simpa using c) (ev_now ?_)
    symm; rw [decide_eq_false_iff_not]; exact fun z => c z.1

/-! total -/
theorem total_l0 (l : List Int) (i : Nat) (h1 : i ≤ l.length) (hl : l.length ≤ 2000) (hb : ∀ x ∈ l, 0 ≤ x ∧ x ≤ 1000000000) :
    Ev (fun k => impl_total.l0 k (l.take i).sum l (l.length : Int) (i : Int)) l.sum := by
  refine ev_succ ?_
  by_cases h : i < l.length
  · have a := sum_take_bound l i 1000000000 hb 2000 hl (by omega)
    have b := sum_take_bound l (i + 1) 1000000000 hb 2000 hl (by omega)
    rw [sum_take_succ l i h] at b
    simp (disch := omega) only [impl_total.l0, if_pos, w64]
    rw [← sum_take_succ l i h]
    exact total_l0 l (i + 1) (by omega) hl hb
  · simp (disch := omega) only [impl_total.l0, if_neg]
    exact ev_now (by rw [List.take_of_length_le (by omega)])
 termination_by l.length - i
theorem total_ev (l : List Int) (hl : l.length ≤ 2000) (hb : ∀ x ∈ l, 0 ≤ x ∧ x ≤ 1000000000) : Ev (fun k => impl_total.f k l) l.sum := by
  have h := total_l0 l 0 (by omega) hl hb
  simpa [impl_total.f] using h

/-! firstShort -/
theorem firstShort_l0 (n s u h l : List Int) (c : OkCase n s u h) (f : Fits n l 160) (d : Nat) : ∀ t : Nat, t + d = n.length → Ev (fun k => impl_Case_firstShort.l0 k l (-bal l n t) n (n.length : Int) (t : Int) n s u h) (shortGo l n d t) := by
  have hl := c.1
  have fl := f.2
  induction d with
  | zero =>
    intro t ht
    refine ev_succ ?_
    simp (disch := omega) only [impl_Case_firstShort.l0, if_neg]
    exact ev_now rfl
  | succ d ih =>
    intro t ht
    have b0 := bal_bound l n t f.1 c.2.1 (by omega) (by omega)
    have b1 := bal_bound l n (t + 1) f.1 c.2.1 (by omega) (by omega)
    have e := bal_succ l n t (by omega) (by omega)
    have r := f.1 _ (rd_mem l t (by omega))
    have r2 := c.2.1 _ (rd_mem n t (by omega))
    refine ev_succ ?_
    simp only [impl_Case_firstShort.l0]
    rw [w64 (x := (t : Int) + 1) (by omega) (by omega), show (t : Int) + 1 = ((t + 1 : Nat) : Int) by omega, Int.toNat_natCast]
    refine ev_ifp (by omega) (ev_ifp (by omega) (ev_ifp (by omega) (ev_ifp (by omega) (ev_ifp (by omega) (ev_ifp (by omega) ?_)))))
    refine ev_bind (total_ev _ (by rw [List.length_take]; omega) (fun x hx => by have := c.2.1 x (List.mem_of_mem_take hx); omega)) ?_
    refine ev_ifp (by omega) (ev_bind (total_ev _ (by rw [List.length_take]; omega) (fun x hx => by have := f.1 x (List.mem_of_mem_take hx); omega)) ?_)
    rw [w64 (x := rd n (t : Int) - rd l (t : Int)) (by omega) (by omega), w64 (by omega) (by omega)]
    rw [show -bal l n t + (rd n (t : Int) - rd l (t : Int)) = -bal l n (t + 1) by omega]
    unfold shortGo
    by_cases z : bal l n (t + 1) < 0
    · rw [if_pos z]; exact ev_ifp (by unfold bal at z; omega) (ev_now rfl)
    · rw [if_neg z]; exact ev_ifn (by unfold bal at z; omega) (ih (t + 1) (by omega))
theorem firstShort_ev (n s u h l : List Int) (c : OkCase n s u h) (f : Fits n l 160) : Ev (fun k => impl_Case_firstShort.f k n s u h l) (shortGo l n n.length 0) := by
  have := firstShort_l0 n s u h l c f n.length 0 (by omega)
  simpa [impl_Case_firstShort.f, bal_zero] using this

/-! CanMeet -/
def CanMeetR (n s u h l : List Int) : Bool × Bool := if OkCase n s u h ∧ Fits n l 160 then (decide ((shortGo l n n.length 0).1 < 0), true) else (false, false)
theorem CanMeet_ev (n s u h l : List Int) (hl : l.length ≤ 2000000) (hn : n.length ≤ 2000000) (hs : s.length ≤ 2000000) (hu : u.length ≤ 2000000) (hh : h.length ≤ 2000000) : Ev (fun k => impl_CanMeet.f k n s u h l) (CanMeetR n s u h l) := by
  unfold impl_CanMeet.f CanMeetR
  refine ev_bind (areLimits_ev n s u h l hl hn hs hu hh) ?_
  by_cases c : OkCase n s u h ∧ Fits n l 160
  · rw [if_pos c]; exact ev_ifp (by rw [decide_eq_true_iff]; exact c) (ev_bind (firstShort_ev n s u h l c.1 c.2) (ev_now rfl))
  · rw [if_neg c]; exact ev_ifn (by rw [decide_eq_true_iff]; exact c) (ev_now rfl)

/-! LatestStart -/
theorem LatestStart_l0 (n s u h l : List Int) (c : OkCase n s u h) (f : Fits n l 160) (m : Nat) : ∀ (q : Int) (x : List Int), m ≤ n.length → x.length = n.length → Ev (fun k => impl_LatestStart.l0 k l x q ((m : Int) - 1) n s u h) (lsGo n l m q x, true) := by
  have cl := c.1
  have fl := f.2
  induction m with
  | zero =>
    intro q x hm hx
    refine ev_succ ?_
    simp (disch := omega) only [impl_LatestStart.l0, if_neg]
    exact ev_now rfl
  | succ m ih =>
    intro q x hm hx
    refine ev_succ ?_
    simp only [impl_LatestStart.l0]
    rw [show ((m + 1 : Nat) : Int) - 1 = (m : Int) by omega, Int.toNat_natCast, w64 (x := (m : Int) - 1) (by omega) (by omega)]
    refine ev_ifp (by omega) (ev_ifp (by omega) (ev_ifp (by omega) (ev_ifp (by omega) (ev_ifp (by omega) ?_))))
    simp only [Option.bind_some, rd_set_same x m _ (show m < x.length by omega)]
    exact ih _ _ (by omega) (by simpa using hx)
theorem LatestStart_ev (n s u h l : List Int) (hl : l.length ≤ 2000000) (hn : n.length ≤ 2000000) (hs : s.length ≤ 2000000) (hu : u.length ≤ 2000000) (hh : h.length ≤ 2000000) : Ev (fun k => impl_LatestStart.f k n s u h l) (LatestStartR n s u h l) := by
  unfold impl_LatestStart.f LatestStartR
  refine ev_bind (CanMeet_ev n s u h l hl hn hs hu hh) ?_
  unfold CanMeetR
  by_cases c : OkCase n s u h ∧ Fits n l 160
  · have cl := c.1.1
    rw [if_pos c]
    refine ev_ifp rfl (ev_succ ?_)
    simp only [impl_LatestStart.j0]
    by_cases z : (shortGo l n n.length 0).1 < 0
    · rw [if_pos (show (OkCase n s u h ∧ Fits n l 160) ∧ (shortGo l n n.length 0).1 < 0 from ⟨c, z⟩)]
      refine ev_ifn (by simpa using z) (ev_ifp (by omega) (ev_ifp (by omega) ?_))
      simp only [Option.bind_some, Int.toNat_natCast, List.length_replicate]
      rw [w64 (x := (n.length : Int) - 1) (by omega) (by omega)]
      exact LatestStart_l0 n s u h l c.1 c.2 n.length 0 _ (Nat.le_refl _) (by simp)
    · rw [if_neg (show ¬ ((OkCase n s u h ∧ Fits n l 160) ∧ (shortGo l n n.length 0).1 < 0) from fun y => z y.2)]
      exact ev_ifp (by simpa using z) (ev_now rfl)
  · rw [if_neg c, if_neg (show ¬ ((OkCase n s u h ∧ Fits n l 160) ∧ (shortGo l n n.length 0).1 < 0) from fun y => c y.1)]
    refine ev_ifn (by simp) (ev_succ ?_)
    simp only [impl_LatestStart.j0]
    exact ev_ifp trivial (ev_now rfl)

/-! l1In -/
theorem l1In_eq (a b c : Int) : spec_l1In.f a b c = some (decide (b ≤ a ∧ a ≤ c)) := by
  unfold spec_l1In.f
  by_cases h : a ≥ b
  · rw [if_pos h]; congr 1; rw [decide_eq_decide]; omega
  · rw [if_neg h]; congr 1; symm; rw [decide_eq_false_iff_not]; omega

/-! l2Row -/
theorem l2Row_l0 (l : List Int) (n hi : Int) (i : Nat) (h1 : i ≤ l.length) (hl : l.length ≤ 2000000) :
    Ev (fun k => spec_l2Row.l0 k l n hi (i : Int)) (decide ((∀ x ∈ l.drop i, 0 ≤ x ∧ x ≤ hi) ∧ (l.length : Int) = n)) := by
  refine ev_succ ?_
  by_cases h : i < l.length
  · simp (disch := omega) only [spec_l2Row.l0, if_pos, l1In_eq, Option.bind_some, w64]
    rw [drop_rd l i h]
    by_cases c : 0 ≤ rd l i ∧ rd l i ≤ hi
    · refine ev_ifp (by simpa using c) ?_
      refine ev_to (l2Row_l0 l n hi (i + 1) (by omega) hl) ?_
      rw [decide_eq_decide]; simp [c]
    · refine ev_ifn (by simpa using c) (ev_now ?_)
      symm; rw [decide_eq_false_iff_not]; simp [c]
  · simp (disch := omega) only [spec_l2Row.l0, if_neg]
    exact ev_now (by
      rw [List.drop_eq_nil_of_le (show l.length ≤ i by omega)]
      rw [Bool.eq_iff_iff]; simp)
 termination_by l.length - i
theorem l2Row_ev (l : List Int) (n hi : Int) (hl : l.length ≤ 2000000) : Ev (fun k => spec_l2Row.f k l n hi) (decide ((∀ x ∈ l, 0 ≤ x ∧ x ≤ hi) ∧ (l.length : Int) = n)) := by
  have h := l2Row_l0 l n hi 0 (by omega) hl
  simpa [spec_l2Row.f] using h

/-! l2Good -/
theorem l2Good_ev (n s u h : List Int) (hn : n.length ≤ 2000000) (hs : s.length ≤ 2000000) (hu : u.length ≤ 2000000) (hh : h.length ≤ 2000000) : Ev (fun k => spec_l2Good.f k n s u h) (decide (OkCase n s u h)) := by
  unfold spec_l2Good.f
  by_cases c : (n.length : Int) ≤ 8
  · refine ev_ifp c (ev_bind (l2Row_ev n _ 20 hn) ?_)
    by_cases c1 : ∀ x ∈ n, 0 ≤ x ∧ x ≤ 20
    · refine ev_ifp (by simpa using c1) (ev_bind (l2Row_ev s _ 99 hs) ?_)
      by_cases c2 : (∀ x ∈ s, 0 ≤ x ∧ x ≤ 99) ∧ (s.length : Int) = n.length
      · refine ev_ifp (by rw [decide_eq_true_iff]; exact c2) (ev_bind (l2Row_ev u _ 9 hu) ?_)
        by_cases c3 : (∀ x ∈ u, 0 ≤ x ∧ x ≤ 9) ∧ (u.length : Int) = n.length
        · refine ev_ifp (by rw [decide_eq_true_iff]; exact c3) (ev_bind (l2Row_ev h _ 9 hh) (ev_now ?_))
          rw [decide_eq_decide]
          exact ⟨fun z => ⟨⟨by omega, by omega, by omega, by omega⟩, c1, c2.1, c3.1, z.1⟩, fun z => ⟨z.2.2.2.2, by have := z.1.2.2.2; omega⟩⟩
        · refine ev_ifn (by rw [decide_eq_true_iff]; exact c3) (ev_now ?_)
          symm; rw [decide_eq_false_iff_not]; exact fun z => c3 ⟨z.2.2.2.1, by have := z.1.2.2.1; omega⟩
      · refine ev_ifn (by rw [decide_eq_true_iff]; exact c2) (ev_now ?_)
        symm; rw [decide_eq_false_iff_not]; exact fun z => c2 ⟨z.2.2.1, by have := z.1.2.1; omega⟩
    · refine ev_ifn (by simpa using c1) (ev_now ?_)
      symm; rw [decide_eq_false_iff_not]; exact fun z => c1 z.2.1
  · refine ev_ifn c (ev_now ?_)
    symm; rw [decide_eq_false_iff_not]; exact fun z => c (by have := z.1.1; omega)

/-! l4Limits -/
theorem l4Limits_ev (n s u h l : List Int) (hl : l.length ≤ 2000000) (hn : n.length ≤ 2000000) (hs : s.length ≤ 2000000) (hu : u.length ≤ 2000000) (hh : h.length ≤ 2000000) : Ev (fun k => spec_l4Limits.f k n s u h l) (decide (OkCase n s u h ∧ Fits n l 160)) := by
  unfold spec_l4Limits.f
  refine ev_bind (l2Good_ev n s u h hn hs hu hh) ?_
  by_cases c : OkCase n s u h
  · refine ev_ifp (by simpa using c) (ev_bind (l2Row_ev l _ 160 hl) (ev_now ?_))
    rw [decide_eq_decide]; exact ⟨fun z => ⟨c, z⟩, fun z => z.2⟩
  · refine ev_ifn (by simpa using c) (ev_now ?_)
    symm; rw [decide_eq_false_iff_not]; exact fun z => c z.1

/-! l4Short -/
theorem l4Short_l0 (n s u h l : List Int) (c : OkCase n s u h) (f : Fits n l 160) (d : Nat) : ∀ t : Nat, t + d = n.length → Ev (fun k => spec_l4Short.l0 k l (bal l n t) (t : Int) n s u h) (shortGo l n d t) := by
  have hl := c.1
  have fl := f.2
  induction d with
  | zero =>
    intro t ht
    refine ev_succ ?_
    simp (disch := omega) only [spec_l4Short.l0, if_neg]
    exact ev_now rfl
  | succ d ih =>
    intro t ht
    have b0 := bal_bound l n t f.1 c.2.1 (by omega) (by omega)
    have b1 := bal_bound l n (t + 1) f.1 c.2.1 (by omega) (by omega)
    have e := bal_succ l n t (by omega) (by omega)
    have r := f.1 _ (rd_mem l t (by omega))
    refine ev_succ ?_
    simp (disch := omega) only [spec_l4Short.l0, if_pos, w64]
    rw [show bal l n t + rd l (t : Int) - rd n (t : Int) = bal l n (t + 1) by omega]
    unfold shortGo
    by_cases z : bal l n (t + 1) < 0
    · rw [if_pos z]; exact ev_ifp z (ev_now rfl)
    · rw [if_neg z]; exact ev_ifn z (ih (t + 1) (by omega))
theorem l4Short_ev (n s u h l : List Int) (c : OkCase n s u h) (f : Fits n l 160) : Ev (fun k => spec_l4Short.f k n s u h l) (shortGo l n n.length 0) := by
  have := l4Short_l0 n s u h l c f n.length 0 (by omega)
  simpa [spec_l4Short.f, bal_zero] using this

/-! spec_CanMeet -/
theorem spec_CanMeet_ev (n s u h l : List Int) (hl : l.length ≤ 2000000) (hn : n.length ≤ 2000000) (hs : s.length ≤ 2000000) (hu : u.length ≤ 2000000) (hh : h.length ≤ 2000000) : Ev (fun k => spec_CanMeet.f k n s u h l) (CanMeetR n s u h l) := by
  unfold spec_CanMeet.f CanMeetR
  refine ev_bind (l4Limits_ev n s u h l hl hn hs hu hh) ?_
  by_cases c : OkCase n s u h ∧ Fits n l 160
  · rw [if_pos c]; exact ev_ifp (by rw [decide_eq_true_iff]; exact c) (ev_bind (l4Short_ev n s u h l c.1 c.2) (ev_now rfl))
  · rw [if_neg c]; exact ev_ifn (by rw [decide_eq_true_iff]; exact c) (ev_now rfl)

/-! l1Least -/
theorem l1Least_eq (a b : Int) : spec_l1Least.f a b = some (mn a b) := by
  unfold spec_l1Least.f mn
  split <;> split <;> first | rfl | (congr 1; omega)

/-! spec_LatestStart -/
theorem spec_LatestStart_l0 (n s u h l : List Int) (c : OkCase n s u h) (f : Fits n l 160) (m : Nat) : ∀ (q : Int) (x : List Int), m ≤ n.length → x.length = n.length → Ev (fun k => spec_LatestStart.l0 k l x q ((m : Int) - 1) n s u h) (lsGo n l m q x, true) := by
  have cl := c.1
  have fl := f.2
  induction m with
  | zero =>
    intro q x hm hx
    refine ev_succ ?_
    simp (disch := omega) only [spec_LatestStart.l0, if_neg]
    exact ev_now rfl
  | succ m ih =>
    intro q x hm hx
    refine ev_succ ?_
    simp only [spec_LatestStart.l0, l1Least_eq, Option.bind_some]
    rw [show ((m + 1 : Nat) : Int) - 1 = (m : Int) by omega, Int.toNat_natCast, w64 (x := (m : Int) - 1) (by omega) (by omega), mn_comm _ (rd l (m : Int))]
    refine ev_ifp (by omega) (ev_ifp (by omega) (ev_ifp (by omega) (ev_ifp (by omega) (ev_ifp (by omega) ?_))))
    simp only [rd_set_same x m _ (show m < x.length by omega)]
    exact ih _ _ (by omega) (by simpa using hx)
theorem spec_LatestStart_ev (n s u h l : List Int) (hl : l.length ≤ 2000000) (hn : n.length ≤ 2000000) (hs : s.length ≤ 2000000) (hu : u.length ≤ 2000000) (hh : h.length ≤ 2000000) : Ev (fun k => spec_LatestStart.f k n s u h l) (LatestStartR n s u h l) := by
  have hc : Ev (fun k => spec_l4Can.f k n s u h l) (decide ((OkCase n s u h ∧ Fits n l 160) ∧ (shortGo l n n.length 0).1 < 0)) := by
    unfold spec_l4Can.f
    refine ev_bind (spec_CanMeet_ev n s u h l hl hn hs hu hh) ?_
    unfold CanMeetR
    by_cases c : OkCase n s u h ∧ Fits n l 160
    · rw [if_pos c]
      by_cases z : (shortGo l n n.length 0).1 < 0
      · exact ev_ifp (by simpa using z) (ev_now (by symm; rw [decide_eq_true_iff]; exact ⟨c, z⟩))
      · exact ev_ifn (by simpa using z) (ev_now (by symm; rw [decide_eq_false_iff_not]; exact fun y => z y.2))
    · rw [if_neg c]
      exact ev_ifn (by simp) (ev_now (by symm; rw [decide_eq_false_iff_not]; exact fun y => c y.1))
  unfold spec_LatestStart.f LatestStartR
  refine ev_bind hc ?_
  by_cases c : (OkCase n s u h ∧ Fits n l 160) ∧ (shortGo l n n.length 0).1 < 0
  · have cl := c.1.1.1
    have fl := c.1.2.2
    rw [if_pos c]
    refine ev_ifp (by rw [decide_eq_true_iff]; exact c) (ev_ifp (by omega) (ev_ifp (by omega) ?_))
    rw [w64 (x := (l.length : Int) - 1) (by omega) (by omega), Int.toNat_natCast, show l.length = n.length by omega]
    exact spec_LatestStart_l0 n s u h l c.1.1 c.1.2 n.length 0 _ (Nat.le_refl _) (by simp)
  · rw [if_neg c]; exact ev_ifn (by rw [decide_eq_true_iff]; exact c) (ev_now rfl)

/-! LAW FnExactLatestStart -/
theorem FnExactLatestStart (n s u h p : List Int) (mn : n.length ≤ maxLen) (ms : s.length ≤ maxLen) (mu : u.length ≤ maxLen) (mh : h.length ≤ maxLen) (_ : p.length ≤ maxLen) : ∃ k, laws_FnExactLatestStart.f k n s u h p = some true := by
  refine Ev.rounds ?_
  unfold laws_FnExactLatestStart.f
  by_cases h0 : (p.length : Int) > 1048576
  · exact ev_ifp h0 (ev_now rfl)
  refine ev_ifn h0 ?_
  have hp : p.length ≤ 2000000 := by omega
  rcases szCase_eq n s u h mn ms mu mh 1048576 (by omega) (by omega) with z | ⟨z, zl⟩
  · rw [z]; simp only [Option.bind_some]; exact ev_ifp (by omega) (ev_now rfl)
  rw [z]; simp only [Option.bind_some]
  refine ev_ifn (by omega) ?_
  clear z mn ms mu mh
  have hn : n.length ≤ 2000000 := by omega
  have hs_ : s.length ≤ 2000000 := by omega
  have hu : u.length ≤ 2000000 := by omega
  have hh : h.length ≤ 2000000 := by omega
  have hs := spec_LatestStart_ev n s u h p hp hn hs_ hu hh
  have hi := LatestStart_ev n s u h p hp hn hs_ hu hh
  have hR := LatestStartR_len n s u h p
  generalize LatestStartR n s u h p = R at hs hi hR
  repeat (first
    | exact ev_now rfl
    | refine ev_bind hs ?_
    | refine ev_bind hi ?_
    | (refine ev_bind (toIntS_ev _ ?_) ?_; first | assumption | omega)
    | (refine ev_bind (eqIntS_ev _ ?_) ?_; first | assumption | omega)
    | (refine ev_bind (toCase_ev _ _ _ _ ?_ ?_ ?_ ?_) ?_; assumption; assumption; assumption; assumption)
    | (refine ev_bind (eqCase_ev _ _ _ _ ?_ ?_ ?_ ?_) ?_; assumption; assumption; assumption; assumption)
    | (refine ev_bind (markCase_ev _ _ _ _ _ ?_ ?_ ?_ ?_ ?_ ?_) ?_; omega; omega; assumption; assumption; assumption; assumption)
    | (refine ev_bind (markIntS_ev _ _ ?_ ?_ ?_) ?_; omega; omega; first | assumption | omega)
    | (refine ev_bind (heldIntS_ev _ _ ?_ ?_ ?_) ?_; omega; omega; first | assumption | omega)
    | (refine ev_ifp ?_ ?_; first | rfl | omega | focus (simp; done))
    | (refine ev_ifn ?_ ?_; first | omega | focus (simp; done))
    | (refine ev_succ ?_; simp only [laws_FnExactLatestStart.j0])
    | (refine ev_succ ?_; simp only [laws_FnExactLatestStart.j1])
    | (refine ev_succ ?_; simp only [laws_FnExactLatestStart.j2]))

end Go.Proofs.Ytkkockpnnoifeaa.Pure
