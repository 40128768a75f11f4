/- The pure statement of the law FnExactTurningPeriods: what the program's function answers is what the reference answers, for all arguments of the kinds of its parameters. -/
import Derived.Test.YtkkockpnnoifeaaQFnExactTurningPeriodsx9
import Derived.Test.YtkkockpnnoifeaaBase
namespace Go.Proofs.Ytkkockpnnoifeaa.Pure
set_option linter.unusedSimpArgs false
open Go.RowKit Go.Proofs.Ytkkockpnnoifeaa.PFnExactTurningPeriods Go.Proofs.YtkkockpnnoifeaaW.PrintWords Go.Proofs.YtkkockpnnoifeaaW.PrintLast Go.Proofs.Ytkkockpnnoifeaa.Base

/-! szIntS -/
theorem szIntS_eq (l : List Int) (a : Int) (h : l.length ≤ maxLen) (h0 : 0 ≤ a) (h1 : a ≤ 1048576) : laws_szIntS.f l a = some (if a < l.length then -1 else a - l.length) := by
  unfold maxLen at h
  unfold laws_szIntS.f
  rw [w64 (by omega) (by omega)]
  by_cases c : a < l.length
  · rw [if_pos c, if_pos (by omega)]
  · rw [if_neg c, if_neg (by omega)]

/-! szCase -/
/-- Either the case is too large, and the law says nothing, or its four lists are short. -/
theorem szCase_eq (n s u h : List Int) (hn : n.length ≤ maxLen) (hs : s.length ≤ maxLen) (hu : u.length ≤ maxLen) (hh : h.length ≤ maxLen) (a : Int) (h0 : 0 ≤ a) (h1 : a ≤ 1048576) :
    laws_szCase.f n s u h a = some (-1) ∨ (laws_szCase.f n s u h a = some (a - n.length - s.length - u.length - h.length) ∧ (n.length : Int) + s.length + u.length + h.length ≤ a) := by
  unfold laws_szCase.f
  rw [szIntS_eq n a hn h0 h1]
  by_cases c1 : a < n.length
  · left; rw [if_pos c1]; rfl
  rw [if_neg c1, Option.bind_some, if_neg (by omega), szIntS_eq s _ hs (by omega) (by omega)]
  by_cases c2 : a - n.length < s.length
  · left; rw [if_pos c2]; rfl
  rw [if_neg c2, Option.bind_some, if_neg (by omega), szIntS_eq u _ hu (by omega) (by omega)]
  by_cases c3 : a - n.length - s.length < u.length
  · left; rw [if_pos c3]; rfl
  rw [if_neg c3, Option.bind_some, if_neg (by omega), szIntS_eq h _ hh (by omega) (by omega)]
  by_cases c4 : a - n.length - s.length - u.length < h.length
  · left; rw [if_pos c4]; rfl
  right
  rw [if_neg c4, Option.bind_some, if_neg (by omega)]
  exact ⟨rfl, by omega⟩

/-! toIntS -/
theorem toIntS_l0 (l acc : List Int) (i : Nat) (hi : i ≤ l.length) (hl : l.length ≤ 2000000) (ha : acc.length = l.length) (hg : ∀ j, j < i → acc[j]? = l[j]?) :
    Ev (fun k => laws_toIntS.l0 k l acc (i : Int)) l := by
  refine ev_succ ?_
  by_cases h : i < l.length
  · simp (disch := omega) only [laws_toIntS.l0, if_pos, w64, Int.toNat_natCast]
    refine toIntS_l0 l (acc.set i (rd l i)) (i + 1) (by omega) hl (by simpa using ha) (fun j hj => ?_)
    rw [set_get _ _ _ _ (by omega)]
    by_cases e : j = i
    · subst e; rw [if_pos rfl, get_rd l j h]
    · rw [if_neg e]; exact hg j (by omega)
  · simp (disch := omega) only [laws_toIntS.l0, if_neg]
    exact ev_now (eq_of_get ha fun j hj => hg j (by omega))
 termination_by l.length - i
theorem toIntS_ev (l : List Int) (hl : l.length ≤ 2000000) : Ev (fun k => laws_toIntS.f k l) l := by
  simp (disch := omega) only [laws_toIntS.f, if_pos, Int.toNat_natCast]
  exact toIntS_l0 l _ 0 (by omega) hl (by simp) (fun j hj => by omega)

/-! toCase -/
theorem toCase_ev (n s u h : List Int) (hn : n.length ≤ 2000000) (hs : s.length ≤ 2000000) (hu : u.length ≤ 2000000) (hh : h.length ≤ 2000000) : Ev (fun k => laws_toCase.f k n s u h) (n, s, u, h) := by
  unfold laws_toCase.f
  exact ev_bind (toIntS_ev n hn) (ev_bind (toIntS_ev s hs) (ev_bind (toIntS_ev u hu) (ev_bind (toIntS_ev h hh) (ev_now rfl))))

/-! eqIntS -/
theorem eqIntS_l0 (l : List Int) (i : Nat) (hi : i ≤ l.length) (hl : l.length ≤ 2000000) : Ev (fun k => laws_eqIntS.l0 k l l (i : Int)) true := by
  refine ev_succ ?_
  by_cases h : i < l.length
  · simp (disch := omega) only [laws_eqIntS.l0, if_pos, w64]
    exact eqIntS_l0 l (i + 1) (by omega) hl
  · simp (disch := omega) only [laws_eqIntS.l0, if_neg]
    exact ev_now rfl
 termination_by l.length - i
theorem eqIntS_ev (l : List Int) (hl : l.length ≤ 2000000) : Ev (fun k => laws_eqIntS.f k l l) true := by
  simp (disch := omega) only [laws_eqIntS.f, if_pos]
  exact eqIntS_l0 l 0 (by omega) hl

/-! eqCase -/
theorem eqCase_ev (n s u h : List Int) (hn : n.length ≤ 2000000) (hs : s.length ≤ 2000000) (hu : u.length ≤ 2000000) (hh : h.length ≤ 2000000) : Ev (fun k => laws_eqCase.f k n s u h n s u h) true := by
  unfold laws_eqCase.f
  exact ev_bind (eqIntS_ev n hn) (ev_ifp rfl (ev_bind (eqIntS_ev s hs) (ev_ifp rfl (ev_bind (eqIntS_ev u hu) (ev_ifp rfl (ev_bind (eqIntS_ev h hh) (ev_ifp rfl (ev_now rfl))))))))

/-! markIntS -/
theorem markIntS_l0 (l : List Int) (m : Int) (i : Nat) (acc : List Int) (hm : 0 ≤ m) (hm2 : m ≤ 100000000) (hi : i ≤ l.length) (hl : l.length ≤ 2000000) (ha : acc.length = l.length) (hg : ∀ j, j < i → acc[j]? = (up m l.length)[j]?) :
    Ev (fun k => laws_markIntS.l0 k acc (m + i) (i : Int)) (m + l.length, up m l.length) := by
  refine ev_succ ?_
  by_cases h : i < l.length
  · simp (disch := omega) only [laws_markIntS.l0, if_pos, w64, Int.toNat_natCast]
    rw [show m + (i : Int) + 1 = m + ((i + 1 : Nat) : Int) by omega, show (i : Int) + 1 = ((i + 1 : Nat) : Int) by omega]
    refine markIntS_l0 l m (i + 1) (acc.set i (m + i)) hm hm2 (by omega) hl (by simpa using ha) (fun j hj => ?_)
    rw [set_get _ _ _ _ (by omega)]
    by_cases e : j = i
    · subst e; rw [if_pos rfl, up_get m _ _ h]
    · rw [if_neg e]; exact hg j (by omega)
  · simp (disch := omega) only [laws_markIntS.l0, if_neg]
    obtain rfl : i = l.length := by omega
    exact ev_now (by rw [eq_of_get (m := up m l.length) (by rw [up_length, ha]) (fun j hj => hg j (by omega))])
 termination_by l.length - i
theorem markIntS_ev (l : List Int) (m : Int) (hm : 0 ≤ m) (hm2 : m ≤ 100000000) (hl : l.length ≤ 2000000) : Ev (fun k => laws_markIntS.f k l m) (m + l.length, up m l.length) := by
  have h := markIntS_l0 l m 0 l hm hm2 (by omega) hl rfl (fun j hj => by omega)
  simpa [laws_markIntS.f] using h

/-! markCase -/
theorem markCase_ev (n s u h : List Int) (m : Int) (h0 : 0 ≤ m) (h1 : m ≤ 10000000) (hn : n.length ≤ 2000000) (hs : s.length ≤ 2000000) (hu : u.length ≤ 2000000) (hh : h.length ≤ 2000000) :
    Ev (fun k => laws_markCase.f k n s u h m) (m + n.length + s.length + u.length + h.length, up m n.length, up (m + n.length) s.length, up (m + n.length + s.length) u.length, up (m + n.length + s.length + u.length) h.length) := by
  unfold laws_markCase.f
  exact ev_bind (markIntS_ev n m h0 (by omega) hn) (ev_bind (markIntS_ev s _ (by omega) (by omega) hs) (ev_bind (markIntS_ev u _ (by omega) (by omega) hu) (ev_bind (markIntS_ev h _ (by omega) (by omega) hh) (ev_now rfl))))

/-! heldIntS -/
theorem heldIntS_l0 (n : Nat) (m : Int) (i : Nat) (hm : 0 ≤ m) (hm2 : m ≤ 100000000) (hi : i ≤ n) (hl : n ≤ 2000000) :
    Ev (fun k => laws_heldIntS.l0 k (up m n) (m + i) (i : Int)) (m + n) := by
  refine ev_succ ?_
  by_cases h : i < n
  · simp (disch := omega) only [laws_heldIntS.l0, up_length, if_pos, w64, up_rd m n i h]
    rw [show m + (i : Int) + 1 = m + ((i + 1 : Nat) : Int) by omega, show (i : Int) + 1 = ((i + 1 : Nat) : Int) by omega]
    exact heldIntS_l0 n m (i + 1) hm hm2 (by omega) hl
  · simp (disch := omega) only [laws_heldIntS.l0, up_length, if_neg]
    obtain rfl : i = n := by omega
    exact ev_now rfl
 termination_by n - i
theorem heldIntS_ev (n : Nat) (m : Int) (hm : 0 ≤ m) (hm2 : m ≤ 100000000) (hl : n ≤ 2000000) : Ev (fun k => laws_heldIntS.f k (up m n) m) (m + n) := by
  have h := heldIntS_l0 n m 0 hm hm2 (by omega) hl
  simpa [laws_heldIntS.f] using h

/-! OkCase -/
/-- A valid case: needs, setups, units, holds. -/
def OkCase (n s u h : List Int) : Prop := (n.length ≤ 8 ∧ s.length = n.length ∧ u.length = n.length ∧ h.length = n.length) ∧ (∀ x ∈ n, 0 ≤ x ∧ x ≤ 20) ∧ (∀ x ∈ s, 0 ≤ x ∧ x ≤ 99) ∧ (∀ x ∈ u, 0 ≤ x ∧ x ≤ 9) ∧ (∀ x ∈ h, 0 ≤ x ∧ x ≤ 9)
instance (n s u h : List Int) : Decidable (OkCase n s u h) := by unfold OkCase; infer_instance

/-! okc -/
/-- The bounds of a valid case's numbers, place by place. -/
theorem okc_n {n s u h : List Int} (c : OkCase n s u h) (i : Nat) (hi : i < n.length) : 0 ≤ rd n (i : Int) ∧ rd n (i : Int) ≤ 20 := c.2.1 _ (rd_mem n i hi)
theorem okc_s {n s u h : List Int} (c : OkCase n s u h) (i : Nat) (hi : i < n.length) : 0 ≤ rd s (i : Int) ∧ rd s (i : Int) ≤ 99 := c.2.2.1 _ (rd_mem s i (by have := c.1; omega))
theorem okc_u {n s u h : List Int} (c : OkCase n s u h) (i : Nat) (hi : i < n.length) : 0 ≤ rd u (i : Int) ∧ rd u (i : Int) ≤ 9 := c.2.2.2.1 _ (rd_mem u i (by have := c.1; omega))
theorem okc_h {n s u h : List Int} (c : OkCase n s u h) (i : Nat) (hi : i < n.length) : 0 ≤ rd h (i : Int) ∧ rd h (i : Int) ≤ 9 := c.2.2.2.2 _ (rd_mem h i (by have := c.1; omega))

/-! seg -/
/-- The sum of the places i, .., j - 1 of a list. -/
def seg (l : List Int) (i j : Nat) : Int := ((l.take j).drop i).sum
theorem seg_self (l : List Int) (i : Nat) : seg l i i = 0 := by
  unfold seg; rw [List.drop_eq_nil_of_le (by rw [List.length_take]; omega)]; rfl
theorem seg_succ (l : List Int) (i j : Nat) (hij : i ≤ j) (hj : j < l.length) : seg l i (j + 1) = seg l i j + rd l (j : Int) := by
  unfold seg
  rw [take_succ_rd l j hj, List.drop_append_of_le_length (by rw [List.length_take]; omega), List.sum_append]; simp
theorem seg_bound (l : List Int) (i j : Nat) (m : Int) (h : ∀ x ∈ l, 0 ≤ x ∧ x ≤ m) (hl : l.length ≤ 8) (h0 : 0 ≤ m) : 0 ≤ seg l i j ∧ seg l i j ≤ m * 8 := by
  have hb := sum_bound ((l.take j).drop i) 0 m (fun x hx => h x (List.mem_of_mem_take (List.mem_of_mem_drop hx)))
  have hlen : (((l.take j).drop i).length : Int) ≤ 8 := by rw [List.length_drop, List.length_take]; omega
  have := Int.mul_le_mul_of_nonneg_left hlen h0
  unfold seg; omega
theorem seg_zero (l : List Int) (j : Nat) : seg l 0 j = (l.take j).sum := rfl

/-! ratesof -/
/-- The rate from a period to another one. -/
def rateR (u h : List Int) (i t : Nat) : Int := rd u (i : Int) + seg h i t
theorem rateR_bound {n s u h : List Int} (c : OkCase n s u h) (i t : Nat) (hi : i < n.length) : 0 ≤ rateR u h i t ∧ rateR u h i t ≤ 81 := by
  have a := okc_u c i hi
  have b := seg_bound h i t 9 c.2.2.2.2 (by have := c.1; omega) (by omega)
  unfold rateR; omega

/-! spanR -/
/-- The needs of d periods from i on, each times its rate from i. -/
def wgt (n u h : List Int) (i : Nat) : Nat → Int
  | 0 => 0
  | d + 1 => wgt n u h i d + rd n ((i + d : Nat) : Int) * rateR u h i (i + d)
/-- The span cost. -/
def spanR (n s u h : List Int) (i j : Nat) : Int := if seg n i j = 0 then 0 else rd s (i : Int) + wgt n u h i (j - i)
theorem mul_bd' {x y A B : Int} (hx : 0 ≤ x ∧ x ≤ A) (hy : 0 ≤ y ∧ y ≤ B) : 0 ≤ x * y ∧ x * y ≤ A * B :=
  ⟨Int.mul_nonneg hx.1 hy.1, Int.mul_le_mul hx.2 hy.2 hy.1 (by omega)⟩
theorem wgt_bound {n s u h : List Int} (c : OkCase n s u h) (i d : Nat) (hi : i + d ≤ n.length) : 0 ≤ wgt n u h i d ∧ wgt n u h i d ≤ 1620 * d := by
  induction d with
  | zero => simp [wgt]
  | succ d ih =>
    have a := ih (by omega)
    have b := mul_bd' (okc_n c (i + d) (by omega)) (rateR_bound c i (i + d) (by omega))
    simp only [wgt]; omega
theorem spanR_bound {n s u h : List Int} (c : OkCase n s u h) (i j : Nat) (hij : i < j) (hj : j ≤ n.length) : 0 ≤ spanR n s u h i j ∧ spanR n s u h i j ≤ 20000 := by
  have a := okc_s c i (by omega)
  have b := wgt_bound c i (j - i) (by omega)
  have l := c.1
  unfold spanR; split <;> omega

/-! cnd -/
/-- What the first j periods cost if the last order that lasts to j is in period i. -/
def cnd (F n s u h : List Int) (j i : Nat) : Int := rd F (i : Int) + spanR n s u h i j
def bestGo (v : Nat → Int) : Nat → Nat → Nat → Nat
  | 0, _, b => b
  | d + 1, i, b => bestGo v d (i + 1) (if v i ≤ v b then i else b)
theorem bestGo_spec (v : Nat → Int) (d : Nat) : ∀ i b, b < i → (∀ x, x < i → v b ≤ v x) → (∀ x, b < x → x < i → v b < v x) →
    bestGo v d i b < i + d ∧ (∀ x, x < i + d → v (bestGo v d i b) ≤ v x) ∧ ∀ x, bestGo v d i b < x → x < i + d → v (bestGo v d i b) < v x := by
  induction d with
  | zero => intro i b hb h1 h2; exact ⟨by simpa [bestGo] using hb, by simpa [bestGo] using h1, by simpa [bestGo] using h2⟩
  | succ d ih =>
    intro i b hb h1 h2
    unfold bestGo
    by_cases c : v i ≤ v b
    · rw [if_pos c]
      have := ih (i + 1) i (by omega) (fun x hx => by
        by_cases e : x = i
        · subst e; omega
        · have := h1 x (by omega); omega) (fun x h3 h4 => by omega)
      rw [show i + (d + 1) = i + 1 + d by omega]
      exact this
    · rw [if_neg c]
      have := ih (i + 1) b (by omega) (fun x hx => by
        by_cases e : x = i
        · subst e; omega
        · exact h1 x (by omega)) (fun x h3 h4 => by
        by_cases e : x = i
        · subst e; omega
        · exact h2 x h3 (by omega))
      rw [show i + (d + 1) = i + 1 + d by omega]
      exact this
def leastGo (v : Nat → Int) : Nat → Nat → Int → Int
  | 0, _, l => l
  | d + 1, i, l => leastGo v d (i + 1) (mn l (v i))
theorem leastGo_best (v : Nat → Int) (d : Nat) : ∀ i b, leastGo v d i (v b) = v (bestGo v d i b) := by
  induction d with
  | zero => intro i b; rfl
  | succ d ih =>
    intro i b
    unfold leastGo bestGo
    rw [← ih]
    congr 1
    unfold mn
    by_cases c : v i ≤ v b
    · rw [if_pos c]; split <;> omega
    · rw [if_neg c, if_neg (by omega)]

/-! fwd -/
/-- The forward costs, and the last orders. -/
def fwd (n s u h : List Int) : Nat → List Int
  | 0 => [0]
  | m + 1 => fwd n s u h m ++ [cnd (fwd n s u h m) n s u h (m + 1) (bestGo (cnd (fwd n s u h m) n s u h (m + 1)) m 1 0)]
def lastAt (n s u h : List Int) (m : Nat) : Nat := bestGo (cnd (fwd n s u h m) n s u h (m + 1)) m 1 0
def lasts (n s u h : List Int) : Nat → List Int
  | 0 => []
  | m + 1 => lasts n s u h m ++ [(lastAt n s u h m : Int)]
theorem fwd_len (n s u h : List Int) (m : Nat) : (fwd n s u h m).length = m + 1 := by
  induction m with
  | zero => rfl
  | succ m ih => simp [fwd, ih]
theorem lasts_len (n s u h : List Int) (m : Nat) : (lasts n s u h m).length = m := by
  induction m with
  | zero => rfl
  | succ m ih => simp [lasts, ih]
theorem lastAt_spec (n s u h : List Int) (m : Nat) : lastAt n s u h m < 1 + m ∧ (∀ x, x < 1 + m → cnd (fwd n s u h m) n s u h (m + 1) (lastAt n s u h m) ≤ cnd (fwd n s u h m) n s u h (m + 1) x) ∧
    ∀ x, lastAt n s u h m < x → x < 1 + m → cnd (fwd n s u h m) n s u h (m + 1) (lastAt n s u h m) < cnd (fwd n s u h m) n s u h (m + 1) x := by
  refine bestGo_spec _ m 1 0 (by omega) (fun x hx => ?_) (fun x h1 h2 => by omega)
  obtain rfl : x = 0 := by omega
  exact Int.le_refl _
theorem rd_append_left (l m : List Int) (i : Nat) (h : i < l.length) : rd (l ++ m) (i : Int) = rd l (i : Int) := by
  simp [rd, List.getD_eq_getElem?_getD, List.getElem?_append_left h]
theorem rd_append_at (l m : List Int) (x : Int) : rd (l ++ x :: m) (l.length : Int) = x := by
  simp [rd, List.getD_eq_getElem?_getD]
theorem fwd_rd (n s u h : List Int) (m d i : Nat) (hi : i ≤ m) : rd (fwd n s u h (m + d)) (i : Int) = rd (fwd n s u h m) (i : Int) := by
  induction d with
  | zero => rfl
  | succ d ih =>
    rw [show m + (d + 1) = (m + d) + 1 by omega]
    simp only [fwd]
    rw [rd_append_left _ _ _ (by rw [fwd_len]; omega), ih]
theorem fwd_last (n s u h : List Int) (m : Nat) : rd (fwd n s u h (m + 1)) ((m + 1 : Nat) : Int) = cnd (fwd n s u h m) n s u h (m + 1) (lastAt n s u h m) := by
  simp only [fwd]
  have := rd_append_at (fwd n s u h m) [] (cnd (fwd n s u h m) n s u h (m + 1) (bestGo (cnd (fwd n s u h m) n s u h (m + 1)) m 1 0))
  rw [fwd_len] at this
  exact this
theorem lasts_rd (n s u h : List Int) (m d : Nat) : rd (lasts n s u h (m + 1 + d)) (m : Int) = (lastAt n s u h m : Int) := by
  induction d with
  | zero =>
    simp only [lasts, Nat.add_zero]
    have := rd_append_at (lasts n s u h m) [] (lastAt n s u h m : Int)
    rw [lasts_len] at this
    exact this
  | succ d ih =>
    rw [show m + 1 + (d + 1) = (m + 1 + d) + 1 by omega]
    simp only [lasts]
    rw [rd_append_left _ _ _ (by rw [lasts_len]; omega), ih]
theorem fwd_bound {n s u h : List Int} (c : OkCase n s u h) (m : Nat) (hm : m ≤ n.length) : ∀ x ∈ fwd n s u h m, 0 ≤ x ∧ x ≤ 20000 * m := by
  induction m with
  | zero => simp [fwd]
  | succ m ih =>
    intro x hx
    simp only [fwd, List.mem_append, List.mem_singleton] at hx
    rcases hx with hx | rfl
    · have := ih (by omega) x hx; omega
    · have sp := (lastAt_spec n s u h m).1
      have a := ih (by omega) _ (rd_mem (fwd n s u h m) (lastAt n s u h m) (by rw [fwd_len]; omega))
      have b := spanR_bound c (lastAt n s u h m) (m + 1) (by omega) hm
      show 0 ≤ cnd (fwd n s u h m) n s u h (m + 1) (lastAt n s u h m) ∧ cnd (fwd n s u h m) n s u h (m + 1) (lastAt n s u h m) ≤ _
      unfold cnd; omega
theorem cnd_bound {n s u h : List Int} (c : OkCase n s u h) (m i : Nat) (hm : m + 1 ≤ n.length) (hi : i ≤ m) : 0 ≤ cnd (fwd n s u h m) n s u h (m + 1) i ∧ cnd (fwd n s u h m) n s u h (m + 1) i ≤ 400000 := by
  have a := fwd_bound c m (by omega) _ (rd_mem (fwd n s u h m) i (by rw [fwd_len]; omega))
  have b := spanR_bound c i (m + 1) (by omega) hm
  have l := c.1
  unfold cnd; omega

/-! back -/
def backIn (n s u h : List Int) (i : Nat) : Nat → Nat → List Int → List Int
  | 0, _, x => x
  | d + 1, j, x => backIn n s u h i d (j + 1) (x.set i (mn (rd x (i : Int)) (wrap64 (spanR n s u h i j + rd x (j : Int)))))
def backOut (n s u h : List Int) : Nat → List Int → List Int
  | 0, x => x
  | m + 1, x => backOut n s u h m (backIn n s u h m (n.length - (m + 1)) (m + 1) (x.set m (spanR n s u h m n.length)))
/-- The backward costs. -/
def backR (n s u h : List Int) : List Int := backOut n s u h n.length (List.replicate (n.length + 1) 0)
theorem backIn_len (n s u h : List Int) (i d : Nat) : ∀ j x, (backIn n s u h i d j x).length = x.length := by
  induction d with
  | zero => intro j x; rfl
  | succ d ih => intro j x; simp [backIn, ih]
theorem backOut_len (n s u h : List Int) (m : Nat) : ∀ x, (backOut n s u h m x).length = x.length := by
  induction m with
  | zero => intro x; rfl
  | succ m ih => intro x; simp [backOut, ih, backIn_len]
theorem backR_len (n s u h : List Int) : (backR n s u h).length = n.length + 1 := by simp [backR, backOut_len]

/-! filtGo -/
/-- acc, and behind it each t + o, in order, that a test takes, of d numbers from t on. -/
def filtGo (P : Nat → Prop) [DecidablePred P] (o : Nat) : Nat → Nat → List Int → List Int
  | 0, _, acc => acc
  | d + 1, t, acc => filtGo P o d (t + 1) (if P t then acc ++ [((t + o : Nat) : Int)] else acc)
theorem filtGo_len (P : Nat → Prop) [DecidablePred P] (o : Nat) (d : Nat) : ∀ t acc, (filtGo P o d t acc).length ≤ acc.length + d := by
  induction d with
  | zero => intro t acc; simp [filtGo]
  | succ d ih =>
    intro t acc
    unfold filtGo
    have := ih (t + 1) (if P t then acc ++ [((t + o : Nat) : Int)] else acc)
    have e : (if P t then acc ++ [((t + o : Nat) : Int)] else acc).length ≤ acc.length + 1 := by split <;> simp
    omega

/-! turnP -/
def turnP (n s u h : List Int) (t : Nat) : Prop := wrap64 (rd (fwd n s u h n.length) (t : Int) + rd (backR n s u h) (t : Int)) = rd (backR n s u h) 0
instance (n s u h : List Int) : DecidablePred (turnP n s u h) := fun t => by unfold turnP; infer_instance
def TurningPeriodsR (n s u h : List Int) : List Int × Bool := if OkCase n s u h then (filtGo (turnP n s u h) 0 (n.length + 1) 0 [], true) else ([], false)
theorem TurningPeriodsR_len (n s u h : List Int) : (TurningPeriodsR n s u h).1.length ≤ 2000 := by
  unfold TurningPeriodsR; split
  · rename_i c
    show (filtGo (turnP n s u h) 0 (n.length + 1) 0 []).length ≤ 2000
    have := filtGo_len (turnP n s u h) 0 (n.length + 1) 0 []
    have cl := c.1
    simp at this; omega
  · simp

/-! total -/
theorem total_l0 (l : List Int) (i : Nat) (h1 : i ≤ l.length) (hl : l.length ≤ 2000) (hb : ∀ x ∈ l, 0 ≤ x ∧ x ≤ 1000000000) :
    Ev (fun k => impl_total.l0 k (l.take i).sum l (l.length : Int) (i : Int)) l.sum := by
  refine ev_succ ?_
  by_cases h : i < l.length
  · have a := sum_take_bound l i 1000000000 hb 2000 hl (by omega)
    have b := sum_take_bound l (i + 1) 1000000000 hb 2000 hl (by omega)
    rw [sum_take_succ l i h] at b
    simp (disch := omega) only [impl_total.l0, if_pos, w64]
    rw [← sum_take_succ l i h]
    exact total_l0 l (i + 1) (by omega) hl hb
  · simp (disch := omega) only [impl_total.l0, if_neg]
    exact ev_now (by rw [List.take_of_length_le (by omega)])
 termination_by l.length - i
theorem total_ev (l : List Int) (hl : l.length ≤ 2000) (hb : ∀ x ∈ l, 0 ≤ x ∧ x ≤ 1000000000) : Ev (fun k => impl_total.f k l) l.sum := by
  have h := total_l0 l 0 (by omega) hl hb
  simpa [impl_total.f] using h

/-! Case_rate -/
theorem Case_rate_ev (n s u h : List Int) (c : OkCase n s u h) (i t : Nat) (hi : i < n.length) (hit : i ≤ t) (ht : t ≤ n.length) : Ev (fun k => impl_Case_rate.f k n s u h (i : Int) (t : Int)) (rateR u h i t) := by
  have hl := c.1
  have b := rateR_bound c i t hi
  unfold impl_Case_rate.f
  refine ev_ifp (by omega) (ev_ifp (by omega) (ev_ifp (by omega) (ev_ifp (by omega) ?_)))
  rw [Int.toNat_natCast, Int.toNat_natCast]
  refine ev_bind (total_ev _ (by rw [List.length_drop, List.length_take]; omega) (fun x hx => by have := c.2.2.2.2 x (List.mem_of_mem_take (List.mem_of_mem_drop hx)); omega)) (ev_now ?_)
  show wrap64 (rateR u h i t) = rateR u h i t
  exact w64 (by omega) (by omega)

/-! Case_span -/
theorem Case_span_l0 (n s u h : List Int) (c : OkCase n s u h) (i j : Nat) (hij : i < j) (hj : j ≤ n.length) (d : Nat) : ∀ e : Nat, i + e + d = j → Ev (fun k => impl_Case_span.l0 k (i : Int) (j : Int) (rd s (i : Int) + wgt n u h i e) ((i + e : Nat) : Int) n s u h) (rd s (i : Int) + wgt n u h i (j - i)) := by
  have hl := c.1
  induction d with
  | zero =>
    intro e he
    obtain rfl : e = j - i := by omega
    refine ev_succ ?_
    simp (disch := omega) only [impl_Case_span.l0, if_neg]
    exact ev_now rfl
  | succ d ih =>
    intro e he
    have a := okc_s c i (by omega)
    have b := wgt_bound c i e (by omega)
    have b2 := wgt_bound c i (e + 1) (by omega)
    have b3 := mul_bd' (okc_n c (i + e) (by omega)) (rateR_bound c i (i + e) (by omega))
    have w : wgt n u h i (e + 1) = wgt n u h i e + rd n ((i + e : Nat) : Int) * rateR u h i (i + e) := rfl
    refine ev_succ ?_
    simp only [impl_Case_span.l0]
    refine ev_ifp (by omega) (ev_ifp (by omega) (ev_ifp (by omega) (ev_bind (Case_rate_ev n s u h c i (i + e) (by omega) (by omega) (by omega)) ?_)))
    rw [w64 (x := rd n ((i + e : Nat) : Int) * rateR u h i (i + e)) (by omega) (by omega), w64 (x := ((i + e : Nat) : Int) + 1) (by omega) (by omega), w64 (by omega) (by omega), show rd s (i : Int) + wgt n u h i e + rd n ((i + e : Nat) : Int) * rateR u h i (i + e) = rd s (i : Int) + wgt n u h i (e + 1) by omega]
    exact ih (e + 1) (by omega)
theorem Case_span_ev (n s u h : List Int) (c : OkCase n s u h) (i j : Nat) (hij : i < j) (hj : j ≤ n.length) : Ev (fun k => impl_Case_span.f k n s u h (i : Int) (j : Int)) (spanR n s u h i j) := by
  have hl := c.1
  unfold impl_Case_span.f
  refine ev_ifp (by omega) (ev_ifp (by omega) (ev_ifp (by omega) ?_))
  rw [Int.toNat_natCast, Int.toNat_natCast]
  refine ev_bind (total_ev _ (by rw [List.length_drop, List.length_take]; omega) (fun x hx => by have := c.2.1 x (List.mem_of_mem_take (List.mem_of_mem_drop hx)); omega)) ?_
  unfold spanR
  by_cases z : seg n i j = 0
  · rw [if_pos z]; exact ev_ifp z (ev_now rfl)
  · rw [if_neg z]
    refine ev_ifn z (ev_ifp (by omega) ?_)
    have := Case_span_l0 n s u h c i j hij hj (j - i) 0 (by omega)
    simpa [wgt] using this

/-! Case_forward -/
theorem forward_l1 (n s u h : List Int) (c : OkCase n s u h) (m : Nat) (hm : m + 1 ≤ n.length) (r : List Int) (d : Nat) : ∀ (i : Nat) (l : Int), 1 ≤ i → i + d = m + 1 →
    Ev (fun k => impl_Case_forward.l0 k (fwd n s u h m ++ [leastGo (cnd (fwd n s u h m) n s u h (m + 1)) d i l]) ((m + 2 : Nat) : Int) n s u h) r →
    Ev (fun k => impl_Case_forward.l1 k (fwd n s u h m) ((m + 1 : Nat) : Int) l (i : Int) n s u h) r := by
  have cl := c.1
  have fl := fwd_len n s u h m
  induction d with
  | zero =>
    intro i l h1 hi hn
    refine ev_succ ?_
    simp only [impl_Case_forward.l1]
    refine ev_ifn (by omega) (ev_ifp (by omega) ?_)
    rw [w64 (by omega) (by omega)]
    exact hn
  | succ d ih =>
    intro i l h1 hi hn
    have b := cnd_bound c m i hm (by omega)
    refine ev_succ ?_
    simp only [impl_Case_forward.l1]
    refine ev_ifp (by omega) (ev_ifp (by omega) (ev_ifp (by omega) (ev_bind (Case_span_ev n s u h c i (m + 1) (by omega) hm) ?_)))
    rw [w64 (x := rd (fwd n s u h m) (i : Int) + spanR n s u h i (m + 1)) (by unfold cnd at b; omega) (by unfold cnd at b; omega), w64 (x := (i : Int) + 1) (by omega) (by omega)]
    exact ih (i + 1) _ (by omega) (by omega) hn
theorem forward_l0 (n s u h : List Int) (c : OkCase n s u h) (d : Nat) : ∀ m : Nat, m + d = n.length → Ev (fun k => impl_Case_forward.l0 k (fwd n s u h m) ((m + 1 : Nat) : Int) n s u h) (fwd n s u h n.length) := by
  have cl := c.1
  induction d with
  | zero =>
    intro m hm
    obtain rfl : m = n.length := by omega
    refine ev_succ ?_
    simp (disch := omega) only [impl_Case_forward.l0, if_neg]
    exact ev_now rfl
  | succ d ih =>
    intro m hm
    have fl := fwd_len n s u h m
    have b := cnd_bound c m 0 (by omega) (by omega)
    refine ev_succ ?_
    simp only [impl_Case_forward.l0]
    refine ev_ifp (by omega) (ev_ifp (by omega) (ev_bind (Case_span_ev n s u h c 0 (m + 1) (by omega) (by omega)) ?_))
    have e : rd (fwd n s u h m) 0 + spanR n s u h 0 (m + 1) = cnd (fwd n s u h m) n s u h (m + 1) 0 := rfl
    rw [w64 (by omega) (by omega), e]
    refine forward_l1 n s u h c m (by omega) _ m 1 _ (by omega) (by omega) ?_
    rw [leastGo_best]
    exact ih (m + 1) (by omega)
theorem Case_forward_ev (n s u h : List Int) (c : OkCase n s u h) : Ev (fun k => impl_Case_forward.f k n s u h) (fwd n s u h n.length) :=
  forward_l0 n s u h c n.length 0 (by omega)

/-! Case_backward -/
theorem backward_l1 (n s u h : List Int) (c : OkCase n s u h) (i : Nat) (hi : i < n.length) (r : List Int) (d : Nat) : ∀ (j : Nat) (x : List Int), i < j → j + d = n.length → x.length = n.length + 1 →
    Ev (fun k => impl_Case_backward.l0 k (n.length : Int) (backIn n s u h i d j x) ((i : Int) - 1) n s u h) r →
    Ev (fun k => impl_Case_backward.l1 k (n.length : Int) x (i : Int) (j : Int) n s u h) r := by
  have cl := c.1
  induction d with
  | zero =>
    intro j x hij hj hx hn
    refine ev_succ ?_
    simp only [impl_Case_backward.l1]
    refine ev_ifn (by omega) ?_
    rw [w64 (by omega) (by omega)]
    exact hn
  | succ d ih =>
    intro j x hij hj hx hn
    refine ev_succ ?_
    simp only [impl_Case_backward.l1]
    refine ev_ifp (by omega) (ev_ifp (by omega) (ev_ifp (by omega) (ev_bind (Case_span_ev n s u h c i j hij (by omega)) (ev_ifp (by omega) (ev_ifp (by omega) ?_)))))
    rw [w64 (x := (j : Int) + 1) (by omega) (by omega), Int.toNat_natCast]
    exact ih (j + 1) _ (by omega) (by omega) (by simpa using hx) hn
theorem backward_l0 (n s u h : List Int) (c : OkCase n s u h) (m : Nat) : ∀ x : List Int, m ≤ n.length → x.length = n.length + 1 → Ev (fun k => impl_Case_backward.l0 k (n.length : Int) x ((m : Int) - 1) n s u h) (backOut n s u h m x) := by
  have cl := c.1
  induction m with
  | zero =>
    intro x hm hx
    refine ev_succ ?_
    simp (disch := omega) only [impl_Case_backward.l0, if_neg]
    exact ev_now rfl
  | succ m ih =>
    intro x hm hx
    refine ev_succ ?_
    simp only [impl_Case_backward.l0]
    rw [show ((m + 1 : Nat) : Int) - 1 = (m : Int) by omega]
    refine ev_ifp (by omega) (ev_bind (Case_span_ev n s u h c m n.length (by omega) (Nat.le_refl _)) (ev_ifp (by omega) (ev_ifp (by omega) ?_)))
    rw [w64 (x := (m : Int) + 1) (by omega) (by omega), Int.toNat_natCast]
    exact backward_l1 n s u h c m (by omega) _ (n.length - (m + 1)) (m + 1) _ (by omega) (by omega) (by simpa using hx) (ih _ (by omega) (by rw [backIn_len]; simpa using hx))
theorem Case_backward_ev (n s u h : List Int) (c : OkCase n s u h) : Ev (fun k => impl_Case_backward.f k n s u h) (backR n s u h) := by
  have cl := c.1
  unfold impl_Case_backward.f backR
  rw [w64 (x := (n.length : Int) + 1) (by omega) (by omega), w64 (x := (n.length : Int) - 1) (by omega) (by omega), show ((n.length : Int) + 1).toNat = n.length + 1 by omega]
  exact ev_ifp (by omega) (ev_ifp (by omega) (backward_l0 n s u h c n.length _ (Nat.le_refl _) (by simp)))

/-! within -/
theorem within_eq (a b c : Int) : impl_within.f a b c = some (decide (b ≤ a ∧ a ≤ c)) := by
  unfold impl_within.f
  by_cases h : a ≥ b
  · rw [if_pos h]; congr 1; rw [decide_eq_decide]; omega
  · rw [if_neg h]; congr 1; symm; rw [decide_eq_false_iff_not]; omega

/-! allWithin -/
theorem allWithin_l0 (l : List Int) (lo hi : Int) (i : Nat) (h1 : i ≤ l.length) (hl : l.length ≤ 2000000) :
    Ev (fun k => impl_allWithin.l0 k lo hi l (l.length : Int) (i : Int)) (decide (∀ x ∈ l.drop i, lo ≤ x ∧ x ≤ hi)) := by
  refine ev_succ ?_
  by_cases h : i < l.length
  · simp (disch := omega) only [impl_allWithin.l0, if_pos, within_eq, Option.bind_some, w64]
    rw [drop_rd l i h]
    by_cases c : lo ≤ rd l i ∧ rd l i ≤ hi
    · refine ev_ifp (by simpa using c) ?_
      refine ev_to (allWithin_l0 l lo hi (i + 1) (by omega) hl) ?_
      rw [decide_eq_decide]; simp [c]
    · refine ev_ifn (by simpa using c) (ev_now ?_)
      symm; rw [decide_eq_false_iff_not]; simp [c]
  · simp (disch := omega) only [impl_allWithin.l0, if_neg]
    exact ev_now (by simp [List.drop_eq_nil_of_le (show l.length ≤ i by omega)])
 termination_by l.length - i
theorem allWithin_ev (l : List Int) (lo hi : Int) (hl : l.length ≤ 2000000) : Ev (fun k => impl_allWithin.f k l lo hi) (decide (∀ x ∈ l, lo ≤ x ∧ x ≤ hi)) := by
  have h := allWithin_l0 l lo hi 0 (by omega) hl
  simpa [impl_allWithin.f] using h

/-! IsCase -/
theorem IsCase_ev (n s u h : List Int) (hn : n.length ≤ 2000000) (hs : s.length ≤ 2000000) (hu : u.length ≤ 2000000) (hh : h.length ≤ 2000000) : Ev (fun k => impl_IsCase.f k n s u h) (decide (OkCase n s u h)) := by
  unfold impl_IsCase.f
  by_cases c : n.length ≤ 8 ∧ s.length = n.length ∧ u.length = n.length ∧ h.length = n.length
  · refine ev_ifp (by omega) (ev_ifp (by omega) (ev_ifp (by omega) (ev_ifp (by omega) (ev_bind (allWithin_ev n 0 20 hn) ?_))))
    by_cases c1 : ∀ x ∈ n, 0 ≤ x ∧ x ≤ 20
    · refine ev_ifp (by simpa using c1) (ev_bind (allWithin_ev s 0 99 hs) ?_)
      by_cases c2 : ∀ x ∈ s, 0 ≤ x ∧ x ≤ 99
      · refine ev_ifp (by simpa using c2) (ev_bind (allWithin_ev u 0 9 hu) ?_)
        by_cases c3 : ∀ x ∈ u, 0 ≤ x ∧ x ≤ 9
        · refine ev_ifp (by simpa using c3) (ev_bind (allWithin_ev h 0 9 hh) (ev_now ?_))
          rw [decide_eq_decide]
          exact ⟨fun z => ⟨c, c1, c2, c3, z⟩, fun z => z.2.2.2.2⟩
        · refine ev_ifn (by simpa using c3) (ev_now ?_)
          symm; rw [decide_eq_false_iff_not]; exact fun z => c3 z.2.2.2.1
      · refine ev_ifn (by simpa using c2) (ev_now ?_)
        symm; rw [decide_eq_false_iff_not]; exact fun z => c2 z.2.2.1
    · refine ev_ifn (by simpa using c1) (ev_now ?_)
      symm; rw [decide_eq_false_iff_not]; exact fun z => c1 z.2.1
  · have hf : decide (OkCase n s u h) = false := by rw [decide_eq_false_iff_not]; exact fun z => c z.1
    rw [hf]
    by_cases a : (n.length : Int) ≤ 8
    · refine ev_ifp a ?_
      by_cases b : (s.length : Int) = n.length
      · refine ev_ifp b ?_
        by_cases d : (u.length : Int) = n.length
        · exact ev_ifp d (ev_ifn (fun e => c ⟨by omega, by omega, by omega, by omega⟩) (ev_now rfl))
        · exact ev_ifn d (ev_now rfl)
      · exact ev_ifn b (ev_now rfl)
    · exact ev_ifn a (ev_now rfl)

/-! TurningPeriods -/
theorem TurningPeriods_l0 (n s u h : List Int) (c : OkCase n s u h) (d : Nat) : ∀ (t : Nat) (acc : List Int), t + d = n.length + 1 → acc.length ≤ t → Ev (fun k => impl_TurningPeriods.l0 k acc (backR n s u h) (fwd n s u h n.length) ((fwd n s u h n.length).length : Int) (t : Int)) (filtGo (turnP n s u h) 0 d t acc, true) := by
  have cl := c.1
  have fl := fwd_len n s u h n.length
  have bl := backR_len n s u h
  induction d with
  | zero =>
    intro t acc ht ha
    refine ev_succ ?_
    simp (disch := omega) only [impl_TurningPeriods.l0, if_neg]
    exact ev_now rfl
  | succ d ih =>
    intro t acc ht ha
    refine ev_succ ?_
    simp only [impl_TurningPeriods.l0]
    rw [w64 (x := (t : Int) + 1) (by omega) (by omega)]
    refine ev_ifp (by omega) (ev_ifp (by omega) (ev_ifp (by omega) (ev_ifp (by omega) (ev_ifp (by omega) ?_))))
    unfold filtGo
    by_cases a : turnP n s u h t
    · rw [if_pos a]; exact ev_ifp a (ev_ifp (by omega) (ih (t + 1) _ (by omega) (by simp; omega)))
    · rw [if_neg a]; exact ev_ifn a (ih (t + 1) _ (by omega) (by omega))
theorem TurningPeriods_ev (n s u h : List Int) (hn : n.length ≤ 2000000) (hs : s.length ≤ 2000000) (hu : u.length ≤ 2000000) (hh : h.length ≤ 2000000) : Ev (fun k => impl_TurningPeriods.f k n s u h) (TurningPeriodsR n s u h) := by
  unfold impl_TurningPeriods.f TurningPeriodsR
  refine ev_bind (IsCase_ev n s u h hn hs hu hh) ?_
  by_cases c : OkCase n s u h
  · rw [if_pos c]; exact ev_ifp (by simpa using c) (ev_bind (Case_forward_ev n s u h c) (ev_bind (Case_backward_ev n s u h c) (TurningPeriods_l0 n s u h c (n.length + 1) 0 [] (by omega) (by simp))))
  · rw [if_neg c]; exact ev_ifn (by simpa using c) (ev_now rfl)

/-! l1In -/
theorem l1In_eq (a b c : Int) : spec_l1In.f a b c = some (decide (b ≤ a ∧ a ≤ c)) := by
  unfold spec_l1In.f
  by_cases h : a ≥ b
  · rw [if_pos h]; congr 1; rw [decide_eq_decide]; omega
  · rw [if_neg h]; congr 1; symm; rw [decide_eq_false_iff_not]; omega

/-! l2Row -/
theorem l2Row_l0 (l : List Int) (n hi : Int) (i : Nat) (h1 : i ≤ l.length) (hl : l.length ≤ 2000000) :
    Ev (fun k => spec_l2Row.l0 k l n hi (i : Int)) (decide ((∀ x ∈ l.drop i, 0 ≤ x ∧ x ≤ hi) ∧ (l.length : Int) = n)) := by
  refine ev_succ ?_
  by_cases h : i < l.length
  · simp (disch := omega) only [spec_l2Row.l0, if_pos, l1In_eq, Option.bind_some, w64]
    rw [drop_rd l i h]
    by_cases c : 0 ≤ rd l i ∧ rd l i ≤ hi
    · refine ev_ifp (by simpa using c) ?_
      refine ev_to (l2Row_l0 l n hi (i + 1) (by omega) hl) ?_
      rw [decide_eq_decide]; simp [c]
    · refine ev_ifn (by simpa using c) (ev_now ?_)
      symm; rw [decide_eq_false_iff_not]; simp [c]
  · simp (disch := omega) only [spec_l2Row.l0, if_neg]
    exact ev_now (by
      rw [List.drop_eq_nil_of_le (show l.length ≤ i by omega)]
      rw [Bool.eq_iff_iff]; simp)
 termination_by l.length - i
theorem l2Row_ev (l : List Int) (n hi : Int) (hl : l.length ≤ 2000000) : Ev (fun k => spec_l2Row.f k l n hi) (decide ((∀ x ∈ l, 0 ≤ x ∧ x ≤ hi) ∧ (l.length : Int) = n)) := by
  have h := l2Row_l0 l n hi 0 (by omega) hl
  simpa [spec_l2Row.f] using h

/-! l2Good -/
theorem l2Good_ev (n s u h : List Int) (hn : n.length ≤ 2000000) (hs : s.length ≤ 2000000) (hu : u.length ≤ 2000000) (hh : h.length ≤ 2000000) : Ev (fun k => spec_l2Good.f k n s u h) (decide (OkCase n s u h)) := by
  unfold spec_l2Good.f
  by_cases c : (n.length : Int) ≤ 8
  · refine ev_ifp c (ev_bind (l2Row_ev n _ 20 hn) ?_)
    by_cases c1 : ∀ x ∈ n, 0 ≤ x ∧ x ≤ 20
    · refine ev_ifp (by simpa using c1) (ev_bind (l2Row_ev s _ 99 hs) ?_)
      by_cases c2 : (∀ x ∈ s, 0 ≤ x ∧ x ≤ 99) ∧ (s.length : Int) = n.length
      · refine ev_ifp (by rw [decide_eq_true_iff]; exact c2) (ev_bind (l2Row_ev u _ 9 hu) ?_)
        by_cases c3 : (∀ x ∈ u, 0 ≤ x ∧ x ≤ 9) ∧ (u.length : Int) = n.length
        · refine ev_ifp (by rw [decide_eq_true_iff]; exact c3) (ev_bind (l2Row_ev h _ 9 hh) (ev_now ?_))
          rw [decide_eq_decide]
          exact ⟨fun z => ⟨⟨by omega, by omega, by omega, by omega⟩, c1, c2.1, c3.1, z.1⟩, fun z => ⟨z.2.2.2.2, by have := z.1.2.2.2; omega⟩⟩
        · refine ev_ifn (by rw [decide_eq_true_iff]; exact c3) (ev_now ?_)
          symm; rw [decide_eq_false_iff_not]; exact fun z => c3 ⟨z.2.2.2.1, by have := z.1.2.2.1; omega⟩
      · refine ev_ifn (by rw [decide_eq_true_iff]; exact c2) (ev_now ?_)
        symm; rw [decide_eq_false_iff_not]; exact fun z => c2 ⟨z.2.2.1, by have := z.1.2.1; omega⟩
    · refine ev_ifn (by simpa using c1) (ev_now ?_)
      symm; rw [decide_eq_false_iff_not]; exact fun z => c1 z.2.1
  · refine ev_ifn c (ev_now ?_)
    symm; rw [decide_eq_false_iff_not]; exact fun z => c (by have := z.1.1; omega)

/-! l3Rate -/
theorem l3Rate_l0 (n s u h : List Int) (c : OkCase n s u h) (i t : Nat) (hi : i < n.length) (ht : t ≤ n.length) (d : Nat) : ∀ j : Nat, i ≤ j → j + d = t → Ev (fun k => spec_l3Rate.l0 k (t : Int) (rateR u h i j) (j : Int) n s u h) (rateR u h i t) := by
  have hl := c.1
  induction d with
  | zero =>
    intro j hj he
    obtain rfl : j = t := by omega
    refine ev_succ ?_
    simp (disch := omega) only [spec_l3Rate.l0, if_neg]
    exact ev_now rfl
  | succ d ih =>
    intro j hj he
    have e : rateR u h i j + rd h (j : Int) = rateR u h i (j + 1) := by
      unfold rateR; rw [seg_succ h i j hj (by omega)]; omega
    have b := rateR_bound c i (j + 1) hi
    refine ev_succ ?_
    simp (disch := omega) only [spec_l3Rate.l0, if_pos, e, w64]
    exact ih (j + 1) (by omega) (by omega)
theorem l3Rate_ev (n s u h : List Int) (c : OkCase n s u h) (i t : Nat) (hi : i < n.length) (hit : i ≤ t) (ht : t ≤ n.length) : Ev (fun k => spec_l3Rate.f k n s u h (i : Int) (t : Int)) (rateR u h i t) := by
  have hl := c.1
  unfold spec_l3Rate.f
  refine ev_ifp (by omega) (ev_ifp (by omega) ?_)
  have := l3Rate_l0 n s u h c i t hi ht (t - i) i (Nat.le_refl _) (by omega)
  rwa [show rateR u h i i = rd u (i : Int) by unfold rateR; rw [seg_self]; omega] at this

/-! l3Span -/
theorem l3Span_l0 (n s u h : List Int) (c : OkCase n s u h) (i j : Nat) (hij : i < j) (hj : j ≤ n.length) (d : Nat) : ∀ (e : Nat) (b : Bool), i + e + d = j → b = decide (0 < seg n i (i + e)) → Ev (fun k => spec_l3Span.l0 k (i : Int) (j : Int) (wgt n u h i e) b ((i + e : Nat) : Int) n s u h) (spanR n s u h i j) := by
  have hl := c.1
  induction d with
  | zero =>
    intro e b he hb
    obtain rfl : e = j - i := by omega
    have sb := seg_bound n i j 20 c.2.1 (by omega) (by omega)
    rw [show i + (j - i) = j by omega] at hb
    refine ev_succ ?_
    simp (disch := omega) only [spec_l3Span.l0, if_neg]
    unfold spanR
    by_cases z : seg n i j = 0
    · rw [if_pos z]; exact ev_ifn (by rw [hb, decide_eq_true_iff]; omega) (ev_now rfl)
    · rw [if_neg z]
      have a := okc_s c i (by omega)
      have b2 := wgt_bound c i (j - i) (by omega)
      refine ev_ifp (by rw [hb, decide_eq_true_iff]; omega) (ev_ifp (by omega) (ev_ifp (by omega) (ev_now ?_)))
      rw [w64 (by omega) (by omega)]
  | succ d ih =>
    intro e b he hb
    have a := okc_s c i (by omega)
    have b1 := wgt_bound c i e (by omega)
    have b2 := wgt_bound c i (e + 1) (by omega)
    have b3 := mul_bd' (okc_n c (i + e) (by omega)) (rateR_bound c i (i + e) (by omega))
    have w : wgt n u h i (e + 1) = wgt n u h i e + rd n ((i + e : Nat) : Int) * rateR u h i (i + e) := rfl
    have sb := seg_bound n i (i + e) 20 c.2.1 (by omega) (by omega)
    have ss := seg_succ n i (i + e) (by omega) (by omega)
    have nb := okc_n c (i + e) (by omega)
    refine ev_succ ?_
    simp only [spec_l3Span.l0]
    refine ev_ifp (by omega) (ev_ifp (by omega) (ev_ifp (by omega) (ev_bind (l3Rate_ev n s u h c i (i + e) (by omega) (by omega) (by omega)) ?_)))
    rw [w64 (x := rd n ((i + e : Nat) : Int) * rateR u h i (i + e)) (by omega) (by omega), w64 (x := ((i + e : Nat) : Int) + 1) (by omega) (by omega), w64 (by omega) (by omega), ← w, show ((i + e : Nat) : Int) + 1 = ((i + (e + 1) : Nat) : Int) by omega]
    by_cases z : b = true
    · refine ev_ifp z (ih (e + 1) true (by omega) ?_)
      symm; rw [decide_eq_true_iff]; rw [z] at hb; have := of_decide_eq_true hb.symm; show 0 < seg n i (i + e + 1); omega
    · refine ev_ifn z (ih (e + 1) _ (by omega) ?_)
      rw [decide_eq_decide]
      have : ¬ 0 < seg n i (i + e) := fun q => z (by rw [hb]; exact decide_eq_true q)
      show _ ↔ 0 < seg n i (i + e + 1); omega
theorem l3Span_ev (n s u h : List Int) (c : OkCase n s u h) (i j : Nat) (hij : i < j) (hj : j ≤ n.length) : Ev (fun k => spec_l3Span.f k n s u h (i : Int) (j : Int)) (spanR n s u h i j) := by
  have := l3Span_l0 n s u h c i j hij hj (j - i) 0 false (by omega) (by symm; rw [decide_eq_false_iff_not]; simp [seg_self])
  simpa [spec_l3Span.f, wgt] using this

/-! l3Forward -/
theorem l3Forward_l1 (n s u h : List Int) (c : OkCase n s u h) (m : Nat) (hm : m + 1 ≤ n.length) (r : List Int × List Int) (d : Nat) : ∀ (i b : Nat), 1 ≤ i → b < i → i + d = m + 1 →
    Ev (fun k => spec_l3Forward.l0 k (fwd n s u h m ++ [cnd (fwd n s u h m) n s u h (m + 1) (bestGo (cnd (fwd n s u h m) n s u h (m + 1)) d i b)]) (lasts n s u h m ++ [((bestGo (cnd (fwd n s u h m) n s u h (m + 1)) d i b : Nat) : Int)]) ((m + 2 : Nat) : Int) n s u h) r →
    Ev (fun k => spec_l3Forward.l1 k (fwd n s u h m) (lasts n s u h m) ((m + 1 : Nat) : Int) (b : Int) (i : Int) n s u h) r := by
  have cl := c.1
  have fl := fwd_len n s u h m
  have ll := lasts_len n s u h m
  induction d with
  | zero =>
    intro i b h1 hb hi hn
    have bb := cnd_bound c m b hm (by omega)
    refine ev_succ ?_
    simp only [spec_l3Forward.l1]
    refine ev_ifn (by omega) (ev_ifp (by omega) (ev_ifp (by omega) (ev_bind (l3Span_ev n s u h c b (m + 1) (by omega) hm) (ev_ifp (by omega) (ev_ifp (by omega) ?_)))))
    rw [w64 (x := rd (fwd n s u h m) (b : Int) + spanR n s u h b (m + 1)) (by unfold cnd at bb; omega) (by unfold cnd at bb; omega), w64 (by omega) (by omega)]
    exact hn
  | succ d ih =>
    intro i b h1 hb hi hn
    have bb := cnd_bound c m b hm (by omega)
    have bi := cnd_bound c m i hm (by omega)
    refine ev_succ ?_
    simp only [spec_l3Forward.l1]
    refine ev_ifp (by omega) (ev_ifp (by omega) (ev_ifp (by omega) (ev_bind (l3Span_ev n s u h c i (m + 1) (by omega) hm) (ev_ifp (by omega) (ev_ifp (by omega) (ev_bind (l3Span_ev n s u h c b (m + 1) (by omega) hm) ?_))))))
    rw [w64 (x := rd (fwd n s u h m) (b : Int) + spanR n s u h b (m + 1)) (by unfold cnd at bb; omega) (by unfold cnd at bb; omega), w64 (x := rd (fwd n s u h m) (i : Int) + spanR n s u h i (m + 1)) (by unfold cnd at bi; omega) (by unfold cnd at bi; omega), w64 (x := (i : Int) + 1) (by omega) (by omega)]
    unfold bestGo at hn
    by_cases q : cnd (fwd n s u h m) n s u h (m + 1) i ≤ cnd (fwd n s u h m) n s u h (m + 1) b
    · rw [if_pos q] at hn; exact ev_ifp q (ih (i + 1) i (by omega) (by omega) (by omega) hn)
    · rw [if_neg q] at hn; exact ev_ifn q (ih (i + 1) b (by omega) (by omega) (by omega) hn)
theorem l3Forward_l0 (n s u h : List Int) (c : OkCase n s u h) (d : Nat) : ∀ m : Nat, m + d = n.length → Ev (fun k => spec_l3Forward.l0 k (fwd n s u h m) (lasts n s u h m) ((m + 1 : Nat) : Int) n s u h) (fwd n s u h n.length, lasts n s u h n.length) := by
  have cl := c.1
  induction d with
  | zero =>
    intro m hm
    obtain rfl : m = n.length := by omega
    refine ev_succ ?_
    simp (disch := omega) only [spec_l3Forward.l0, if_neg]
    exact ev_now rfl
  | succ d ih =>
    intro m hm
    refine ev_succ ?_
    simp only [spec_l3Forward.l0]
    refine ev_ifp (by omega) ?_
    exact l3Forward_l1 n s u h c m (by omega) _ m 1 0 (by omega) (by omega) (by omega) (ih (m + 1) (by omega))
theorem l3Forward_ev (n s u h : List Int) (c : OkCase n s u h) : Ev (fun k => spec_l3Forward.f k n s u h) (fwd n s u h n.length, lasts n s u h n.length) :=
  l3Forward_l0 n s u h c n.length 0 (by omega)

/-! l1Least -/
theorem l1Least_eq (a b : Int) : spec_l1Least.f a b = some (mn a b) := by
  unfold spec_l1Least.f mn
  split <;> split <;> first | rfl | (congr 1; omega)

/-! l3Backward -/
theorem l3Backward_l1 (n s u h : List Int) (c : OkCase n s u h) (i : Nat) (hi : i < n.length) (r : List Int) (d : Nat) : ∀ (j : Nat) (x : List Int), i < j → j + d = n.length → x.length = n.length + 1 →
    Ev (fun k => spec_l3Backward.l0 k (n.length : Int) (backIn n s u h i d j x) ((i : Int) - 1) n s u h) r →
    Ev (fun k => spec_l3Backward.l1 k (n.length : Int) x (i : Int) (j : Int) n s u h) r := by
  have cl := c.1
  induction d with
  | zero =>
    intro j x hij hj hx hn
    refine ev_succ ?_
    simp only [spec_l3Backward.l1]
    refine ev_ifn (by omega) ?_
    rw [w64 (by omega) (by omega)]
    exact hn
  | succ d ih =>
    intro j x hij hj hx hn
    refine ev_succ ?_
    simp only [spec_l3Backward.l1, l1Least_eq, Option.bind_some]
    refine ev_ifp (by omega) (ev_ifp (by omega) (ev_ifp (by omega) (ev_bind (l3Span_ev n s u h c i j hij (by omega)) (ev_ifp (by omega) (ev_ifp (by omega) ?_)))))
    rw [w64 (x := (j : Int) + 1) (by omega) (by omega), Int.toNat_natCast]
    exact ih (j + 1) _ (by omega) (by omega) (by simpa using hx) hn
theorem l3Backward_l0 (n s u h : List Int) (c : OkCase n s u h) (m : Nat) : ∀ x : List Int, m ≤ n.length → x.length = n.length + 1 → Ev (fun k => spec_l3Backward.l0 k (n.length : Int) x ((m : Int) - 1) n s u h) (backOut n s u h m x) := by
  have cl := c.1
  induction m with
  | zero =>
    intro x hm hx
    refine ev_succ ?_
    simp (disch := omega) only [spec_l3Backward.l0, if_neg]
    exact ev_now rfl
  | succ m ih =>
    intro x hm hx
    refine ev_succ ?_
    simp only [spec_l3Backward.l0]
    rw [show ((m + 1 : Nat) : Int) - 1 = (m : Int) by omega]
    refine ev_ifp (by omega) (ev_bind (l3Span_ev n s u h c m n.length (by omega) (Nat.le_refl _)) (ev_ifp (by omega) (ev_ifp (by omega) ?_)))
    rw [w64 (x := (m : Int) + 1) (by omega) (by omega), Int.toNat_natCast]
    exact l3Backward_l1 n s u h c m (by omega) _ (n.length - (m + 1)) (m + 1) _ (by omega) (by omega) (by simpa using hx) (ih _ (by omega) (by rw [backIn_len]; simpa using hx))
theorem l3Backward_ev (n s u h : List Int) (c : OkCase n s u h) : Ev (fun k => spec_l3Backward.f k n s u h) (backR n s u h) := by
  have cl := c.1
  unfold spec_l3Backward.f backR
  rw [w64 (x := (n.length : Int) + 1) (by omega) (by omega), w64 (x := (n.length : Int) - 1) (by omega) (by omega), show ((n.length : Int) + 1).toNat = n.length + 1 by omega]
  exact ev_ifp (by omega) (ev_ifp (by omega) (l3Backward_l0 n s u h c n.length _ (Nat.le_refl _) (by simp)))

/-! spec_TurningPeriods -/
theorem spec_TurningPeriods_l0 (n s u h : List Int) (c : OkCase n s u h) (d : Nat) : ∀ (t : Nat) (acc : List Int), t + d = n.length + 1 → acc.length ≤ t → Ev (fun k => spec_TurningPeriods.l0 k acc (fwd n s u h n.length) (backR n s u h) (t : Int)) (filtGo (turnP n s u h) 0 d t acc, true) := by
  have cl := c.1
  have fl := fwd_len n s u h n.length
  have bl := backR_len n s u h
  induction d with
  | zero =>
    intro t acc ht ha
    refine ev_succ ?_
    simp (disch := omega) only [spec_TurningPeriods.l0, if_neg]
    exact ev_now rfl
  | succ d ih =>
    intro t acc ht ha
    refine ev_succ ?_
    simp only [spec_TurningPeriods.l0]
    rw [w64 (x := (t : Int) + 1) (by omega) (by omega)]
    refine ev_ifp (by omega) (ev_ifp (by omega) (ev_ifp (by omega) (ev_ifp (by omega) ?_)))
    unfold filtGo
    by_cases a : turnP n s u h t
    · rw [if_pos a]; exact ev_ifp a (ev_ifp (by omega) (ih (t + 1) _ (by omega) (by simp; omega)))
    · rw [if_neg a]; exact ev_ifn a (ih (t + 1) _ (by omega) (by omega))
theorem spec_TurningPeriods_ev (n s u h : List Int) (hn : n.length ≤ 2000000) (hs : s.length ≤ 2000000) (hu : u.length ≤ 2000000) (hh : h.length ≤ 2000000) : Ev (fun k => spec_TurningPeriods.f k n s u h) (TurningPeriodsR n s u h) := by
  unfold spec_TurningPeriods.f TurningPeriodsR
  simp only [Option.bind_some]
  refine ev_bind (l2Good_ev n s u h hn hs hu hh) ?_
  by_cases c : OkCase n s u h
  · rw [if_pos c]; exact ev_ifp (by simpa using c) (ev_bind (l3Forward_ev n s u h c) (ev_bind (l3Backward_ev n s u h c) (spec_TurningPeriods_l0 n s u h c (n.length + 1) 0 [] (by omega) (by simp))))
  · rw [if_neg c]; exact ev_ifn (by simpa using c) (ev_now rfl)

/-! LAW FnExactTurningPeriods -/
theorem FnExactTurningPeriods (n s u h : List Int) (mn : n.length ≤ maxLen) (ms : s.length ≤ maxLen) (mu : u.length ≤ maxLen) (mh : h.length ≤ maxLen) : ∃ k, laws_FnExactTurningPeriods.f k n s u h = some true := by
  refine Ev.rounds ?_
  unfold laws_FnExactTurningPeriods.f
  rcases szCase_eq n s u h mn ms mu mh 1048576 (by omega) (by omega) with z | ⟨z, zl⟩
  · rw [z]; simp only [Option.bind_some]; exact ev_ifp (by omega) (ev_now rfl)
  rw [z]; simp only [Option.bind_some]
  refine ev_ifn (by omega) ?_
  clear z mn ms mu mh
  have hn : n.length ≤ 2000000 := by omega
  have hs_ : s.length ≤ 2000000 := by omega
  have hu : u.length ≤ 2000000 := by omega
  have hh : h.length ≤ 2000000 := by omega
  have hs := spec_TurningPeriods_ev n s u h hn hs_ hu hh
  have hi := TurningPeriods_ev n s u h hn hs_ hu hh
  have hR := TurningPeriodsR_len n s u h
  generalize TurningPeriodsR n s u h = R at hs hi hR
  repeat (first
    | exact ev_now rfl
    | refine ev_bind hs ?_
    | refine ev_bind hi ?_
    | (refine ev_bind (toIntS_ev _ ?_) ?_; first | assumption | omega)
    | (refine ev_bind (eqIntS_ev _ ?_) ?_; first | assumption | omega)
    | (refine ev_bind (toCase_ev _ _ _ _ ?_ ?_ ?_ ?_) ?_; assumption; assumption; assumption; assumption)
    | (refine ev_bind (eqCase_ev _ _ _ _ ?_ ?_ ?_ ?_) ?_; assumption; assumption; assumption; assumption)
    | (refine ev_bind (markCase_ev _ _ _ _ _ ?_ ?_ ?_ ?_ ?_ ?_) ?_; omega; omega; assumption; assumption; assumption; assumption)
    | (refine ev_bind (markIntS_ev _ _ ?_ ?_ ?_) ?_; omega; omega; first | assumption | omega)
    | (refine ev_bind (heldIntS_ev _ _ ?_ ?_ ?_) ?_; omega; omega; first | assumption | omega)
    | (refine ev_ifp ?_ ?_; first | rfl | omega | focus (simp; done))
    | (refine ev_ifn ?_ ?_; first | omega | focus (simp; done))
    | (refine ev_succ ?_; simp only [laws_FnExactTurningPeriods.j0])
    | (refine ev_succ ?_; simp only [laws_FnExactTurningPeriods.j1])
    | (refine ev_succ ?_; simp only [laws_FnExactTurningPeriods.j2]))


end Go.Proofs.Ytkkockpnnoifeaa.Pure
