/- The pure statement of the law FnExactLeastLate: what the program's function answers is what the reference answers, for all arguments of the kinds of its parameters. -/
import Derived.Test.YtnojmhcmngejnaaQFnExactLeastLatex7
import Derived.Test.YtnojmhcmngejnaaBase
namespace Go.Proofs.Ytnojmhcmngejnaa.Pure
set_option linter.unusedSimpArgs false
open Go.RowKit Go.Proofs.Ytnojmhcmngejnaa.PFnExactLeastLate Go.Proofs.YtnojmhcmngejnaaW.PrintWords Go.Proofs.YtnojmhcmngejnaaW.PrintLast Go.Proofs.Ytnojmhcmngejnaa.Base

/-! szIntS -/
theorem szIntS_eq (l : List Int) (a : Int) (h : l.length ≤ maxLen) (h0 : 0 ≤ a) (h1 : a ≤ 1048576) : laws_szIntS.f l a = some (if a < l.length then -1 else a - l.length) := by
  unfold maxLen at h
  unfold laws_szIntS.f
  rw [w64 (by omega) (by omega)]
  by_cases c : a < l.length
  · rw [if_pos c, if_pos (by omega)]
  · rw [if_neg c, if_neg (by omega)]

/-! szCase -/
/-- Either the case is too large, and the law says nothing, or its four lists are short. -/
theorem szCase_eq (n s u h : List Int) (hn : n.length ≤ maxLen) (hs : s.length ≤ maxLen) (hu : u.length ≤ maxLen) (hh : h.length ≤ maxLen) (a : Int) (h0 : 0 ≤ a) (h1 : a ≤ 1048576) :
    laws_szCase.f n s u h a = some (-1) ∨ (laws_szCase.f n s u h a = some (a - n.length - s.length - u.length - h.length) ∧ (n.length : Int) + s.length + u.length + h.length ≤ a) := by
  unfold laws_szCase.f
  rw [szIntS_eq n a hn h0 h1]
  by_cases c1 : a < n.length
  · left; rw [if_pos c1]; rfl
  rw [if_neg c1, Option.bind_some, if_neg (by omega), szIntS_eq s _ hs (by omega) (by omega)]
  by_cases c2 : a - n.length < s.length
  · left; rw [if_pos c2]; rfl
  rw [if_neg c2, Option.bind_some, if_neg (by omega), szIntS_eq u _ hu (by omega) (by omega)]
  by_cases c3 : a - n.length - s.length < u.length
  · left; rw [if_pos c3]; rfl
  rw [if_neg c3, Option.bind_some, if_neg (by omega), szIntS_eq h _ hh (by omega) (by omega)]
  by_cases c4 : a - n.length - s.length - u.length < h.length
  · left; rw [if_pos c4]; rfl
  right
  rw [if_neg c4, Option.bind_some, if_neg (by omega)]
  exact ⟨rfl, by omega⟩

/-! toIntS -/
theorem toIntS_l0 (l acc : List Int) (i : Nat) (hi : i ≤ l.length) (hl : l.length ≤ 2000000) (ha : acc.length = l.length) (hg : ∀ j, j < i → acc[j]? = l[j]?) :
    Ev (fun k => laws_toIntS.l0 k l acc (i : Int)) l := by
  refine ev_succ ?_
  by_cases h : i < l.length
  · simp (disch := omega) only [laws_toIntS.l0, if_pos, w64, Int.toNat_natCast]
    refine toIntS_l0 l (acc.set i (rd l i)) (i + 1) (by omega) hl (by simpa using ha) (fun j hj => ?_)
    rw [set_get _ _ _ _ (by omega)]
    by_cases e : j = i
    · subst e; rw [if_pos rfl, get_rd l j h]
    · rw [if_neg e]; exact hg j (by omega)
  · simp (disch := omega) only [laws_toIntS.l0, if_neg]
    exact ev_now (eq_of_get ha fun j hj => hg j (by omega))
 termination_by l.length - i
theorem toIntS_ev (l : List Int) (hl : l.length ≤ 2000000) : Ev (fun k => laws_toIntS.f k l) l := by
  simp (disch := omega) only [laws_toIntS.f, if_pos, Int.toNat_natCast]
  exact toIntS_l0 l _ 0 (by omega) hl (by simp) (fun j hj => by omega)

/-! toCase -/
theorem toCase_ev (n s u h : List Int) (hn : n.length ≤ 2000000) (hs : s.length ≤ 2000000) (hu : u.length ≤ 2000000) (hh : h.length ≤ 2000000) : Ev (fun k => laws_toCase.f k n s u h) (n, s, u, h) := by
  unfold laws_toCase.f
  exact ev_bind (toIntS_ev n hn) (ev_bind (toIntS_ev s hs) (ev_bind (toIntS_ev u hu) (ev_bind (toIntS_ev h hh) (ev_now rfl))))

/-! eqIntS -/
theorem eqIntS_l0 (l : List Int) (i : Nat) (hi : i ≤ l.length) (hl : l.length ≤ 2000000) : Ev (fun k => laws_eqIntS.l0 k l l (i : Int)) true := by
  refine ev_succ ?_
  by_cases h : i < l.length
  · simp (disch := omega) only [laws_eqIntS.l0, if_pos, w64]
    exact eqIntS_l0 l (i + 1) (by omega) hl
  · simp (disch := omega) only [laws_eqIntS.l0, if_neg]
    exact ev_now rfl
 termination_by l.length - i
theorem eqIntS_ev (l : List Int) (hl : l.length ≤ 2000000) : Ev (fun k => laws_eqIntS.f k l l) true := by
  simp (disch := omega) only [laws_eqIntS.f, if_pos]
  exact eqIntS_l0 l 0 (by omega) hl

/-! eqCase -/
theorem eqCase_ev (n s u h : List Int) (hn : n.length ≤ 2000000) (hs : s.length ≤ 2000000) (hu : u.length ≤ 2000000) (hh : h.length ≤ 2000000) : Ev (fun k => laws_eqCase.f k n s u h n s u h) true := by
  unfold laws_eqCase.f
  exact ev_bind (eqIntS_ev n hn) (ev_ifp rfl (ev_bind (eqIntS_ev s hs) (ev_ifp rfl (ev_bind (eqIntS_ev u hu) (ev_ifp rfl (ev_bind (eqIntS_ev h hh) (ev_ifp rfl (ev_now rfl))))))))

/-! OkCase -/
/-- A valid case: needs, setups, units, holds. -/
def OkCase (n s u h : List Int) : Prop := (n.length ≤ 8 ∧ s.length = n.length ∧ u.length = n.length ∧ h.length = n.length) ∧ (∀ x ∈ n, 0 ≤ x ∧ x ≤ 20) ∧ (∀ x ∈ s, 0 ≤ x ∧ x ≤ 99) ∧ (∀ x ∈ u, 0 ≤ x ∧ x ≤ 9) ∧ (∀ x ∈ h, 0 ≤ x ∧ x ≤ 9)
instance (n s u h : List Int) : Decidable (OkCase n s u h) := by unfold OkCase; infer_instance

/-! limits -/
/-- Whole numbers, as many as the case has periods, of 0 .. m. -/
def Fits (n l : List Int) (m : Int) : Prop := (∀ x ∈ l, 0 ≤ x ∧ x ≤ m) ∧ (l.length : Int) = n.length
instance (n l : List Int) (m : Int) : Decidable (Fits n l m) := by unfold Fits; infer_instance

/-! okc -/
/-- The bounds of a valid case's numbers, place by place. -/
theorem okc_n {n s u h : List Int} (c : OkCase n s u h) (i : Nat) (hi : i < n.length) : 0 ≤ rd n (i : Int) ∧ rd n (i : Int) ≤ 20 := c.2.1 _ (rd_mem n i hi)
theorem okc_s {n s u h : List Int} (c : OkCase n s u h) (i : Nat) (hi : i < n.length) : 0 ≤ rd s (i : Int) ∧ rd s (i : Int) ≤ 99 := c.2.2.1 _ (rd_mem s i (by have := c.1; omega))
theorem okc_u {n s u h : List Int} (c : OkCase n s u h) (i : Nat) (hi : i < n.length) : 0 ≤ rd u (i : Int) ∧ rd u (i : Int) ≤ 9 := c.2.2.2.1 _ (rd_mem u i (by have := c.1; omega))
theorem okc_h {n s u h : List Int} (c : OkCase n s u h) (i : Nat) (hi : i < n.length) : 0 ≤ rd h (i : Int) ∧ rd h (i : Int) ≤ 9 := c.2.2.2.2 _ (rd_mem h i (by have := c.1; omega))

/-! bestOk -/
theorem bestOk {n s u h r : List Int} (c : OkCase n s u h) (f : Fits n r 9) : impl_Case_bestLate.Ok n s u h r := by
  obtain ⟨⟨l0, l1, l2, l3⟩, hn, hs, hu, hh⟩ := c
  exact ⟨⟨l0, l1, l2, l3, by have := f.2; omega⟩, hn, hs, hu, hh, f.1⟩

/-! seg -/
/-- The sum of the places i, .., j - 1 of a list. -/
def seg (l : List Int) (i j : Nat) : Int := ((l.take j).drop i).sum
theorem seg_self (l : List Int) (i : Nat) : seg l i i = 0 := by
  unfold seg; rw [List.drop_eq_nil_of_le (by rw [List.length_take]; omega)]; rfl
theorem seg_succ (l : List Int) (i j : Nat) (hij : i ≤ j) (hj : j < l.length) : seg l i (j + 1) = seg l i j + rd l (j : Int) := by
  unfold seg
  rw [take_succ_rd l j hj, List.drop_append_of_le_length (by rw [List.length_take]; omega), List.sum_append]; simp
theorem seg_bound (l : List Int) (i j : Nat) (m : Int) (h : ∀ x ∈ l, 0 ≤ x ∧ x ≤ m) (hl : l.length ≤ 8) (h0 : 0 ≤ m) : 0 ≤ seg l i j ∧ seg l i j ≤ m * 8 := by
  have hb := sum_bound ((l.take j).drop i) 0 m (fun x hx => h x (List.mem_of_mem_take (List.mem_of_mem_drop hx)))
  have hlen : (((l.take j).drop i).length : Int) ≤ 8 := by rw [List.length_drop, List.length_take]; omega
  have := Int.mul_le_mul_of_nonneg_left hlen h0
  unfold seg; omega
theorem seg_zero (l : List Int) (j : Nat) : seg l 0 j = (l.take j).sum := rfl

/-! bal -/
/-- The balance of amounts and needs before period t. -/
def bal (p n : List Int) (t : Nat) : Int := (p.take t).sum - (n.take t).sum
theorem bal_zero (p n : List Int) : bal p n 0 = 0 := by simp [bal]
theorem bal_succ (p n : List Int) (t : Nat) (hp : t < p.length) (hn : t < n.length) : bal p n (t + 1) = bal p n t + rd p (t : Int) - rd n (t : Int) := by
  unfold bal; rw [sum_take_succ p t hp, sum_take_succ n t hn]; omega
theorem bal_bound (p n : List Int) (t : Nat) (hp : ∀ x ∈ p, 0 ≤ x ∧ x ≤ 160) (hn : ∀ x ∈ n, 0 ≤ x ∧ x ≤ 20) (lp : p.length ≤ 8) (ln : n.length ≤ 8) : -160 ≤ bal p n t ∧ bal p n t ≤ 1280 := by
  have a := sum_take_bound p t 160 hp 8 lp (by omega)
  have b := sum_take_bound n t 20 hn 8 ln (by omega)
  unfold bal; omega

/-! l1Most -/
theorem l1Most_eq (a b : Int) : spec_l1Most.f a b = some (mx a b) := by
  unfold spec_l1Most.f mx
  split <;> split <;> first | rfl | (congr 1; omega)

/-! lateR -/
/-- What an amount in a period costs that leaves a balance. -/
def lateR (s u h r : List Int) (t : Nat) (x b : Int) : Int := rd u (t : Int) * x + rd h (t : Int) * mx 0 b + rd r (t : Int) * mx 0 (-b) + if x > 0 then rd s (t : Int) else 0
theorem mx0 (x A : Int) (h : x ≤ A) (hA : 0 ≤ A) : 0 ≤ mx 0 x ∧ mx 0 x ≤ A := by
  unfold mx; split <;> omega
theorem mx_comm (a b : Int) : mx a b = mx b a := by
  unfold mx; split <;> split <;> omega
theorem late_parts {n s u h r : List Int} (c : OkCase n s u h) (hr : ∀ x ∈ r, 0 ≤ x ∧ x ≤ 9) (hl : r.length = n.length) (t : Nat) (ht : t < n.length) (x b : Int) (hx : 0 ≤ x ∧ x ≤ 100000) (hb : -100000 ≤ b ∧ b ≤ 100000) :
    (0 ≤ rd u (t : Int) * x ∧ rd u (t : Int) * x ≤ 9 * 100000) ∧ (0 ≤ rd h (t : Int) * mx 0 b ∧ rd h (t : Int) * mx 0 b ≤ 9 * 100000) ∧ (0 ≤ rd r (t : Int) * mx 0 (-b) ∧ rd r (t : Int) * mx 0 (-b) ≤ 9 * 100000) ∧ 0 ≤ rd s (t : Int) ∧ rd s (t : Int) ≤ 99 := by
  have bd : ∀ {x y A B : Int}, (0 ≤ x ∧ x ≤ A) → (0 ≤ y ∧ y ≤ B) → 0 ≤ x * y ∧ x * y ≤ A * B := fun hx hy => ⟨Int.mul_nonneg hx.1 hy.1, Int.mul_le_mul hx.2 hy.2 hy.1 (by omega)⟩
  exact ⟨bd (okc_u c t ht) hx, bd (okc_h c t ht) (mx0 b 100000 (by omega) (by omega)), bd (hr _ (rd_mem r t (by omega))) (mx0 (-b) 100000 (by omega) (by omega)), (okc_s c t ht).1, (okc_s c t ht).2⟩
theorem lateR_bound {n s u h r : List Int} (c : OkCase n s u h) (hr : ∀ x ∈ r, 0 ≤ x ∧ x ≤ 9) (hl : r.length = n.length) (t : Nat) (ht : t < n.length) (x b : Int) (hx : 0 ≤ x ∧ x ≤ 100000) (hb : -100000 ≤ b ∧ b ≤ 100000) : 0 ≤ lateR s u h r t x b ∧ lateR s u h r t x b ≤ 3000000 := by
  obtain ⟨p1, p2, p3, p4⟩ := late_parts c hr hl t ht x b hx hb
  unfold lateR; split <;> omega

/-! owedT -/
/-- The least cost of the last d periods with the balance b before them, -1 where there is none. -/
def owTo (f : Nat → Int) : Nat → Int
  | 0 => -1
  | k + 1 => if 0 ≤ f k then (if owTo f k < 0 then f k else if f k < owTo f k then f k else owTo f k) else owTo f k
def owG (n s u h r : List Int) : Nat → Int → Int
  | 0, b => if b = 0 then 0 else -1
  | d + 1, b => owTo (fun x => if (-n.sum ≤ b + x - rd n ((n.length - (d + 1) : Nat) : Int) ∧ b + x - rd n ((n.length - (d + 1) : Nat) : Int) ≤ n.sum) ∧ 0 ≤ owG n s u h r d (b + x - rd n ((n.length - (d + 1) : Nat) : Int)) then lateR s u h r (n.length - (d + 1)) (x : Int) (b + x - rd n ((n.length - (d + 1) : Nat) : Int)) + owG n s u h r d (b + x - rd n ((n.length - (d + 1) : Nat) : Int)) else -1) (n.sum.toNat + 1)
def owRow (n s u h r : List Int) (d : Nat) : List Int := (List.range (2 * n.sum.toNat + 1)).map fun j : Nat => owG n s u h r d ((j : Int) - n.sum)
def owTab (n s u h r : List Int) : Nat → List (List Int)
  | 0 => [owRow n s u h r 0]
  | d + 1 => owRow n s u h r (d + 1) :: owTab n s u h r d
theorem owRow_len (n s u h r : List Int) (d : Nat) : (owRow n s u h r d).length = 2 * n.sum.toNat + 1 := by simp [owRow]
theorem owRow_at (n s u h r : List Int) (d : Nat) (b : Int) (h0 : -n.sum ≤ b) (h1 : b ≤ n.sum) : rd (owRow n s u h r d) (b + n.sum) = owG n s u h r d b := by
  have hj : (b + n.sum).toNat < 2 * n.sum.toNat + 1 := by omega
  have e : (((b + n.sum).toNat : Nat) : Int) - n.sum = b := by omega
  simp only [rd, owRow, List.getD_eq_getElem?_getD, List.getElem?_map, List.getElem?_range hj, Option.map_some, Option.getD_some]
  rw [e]
theorem owTab_len (n s u h r : List Int) (d : Nat) : (owTab n s u h r d).length = d + 1 := by
  induction d with
  | zero => rfl
  | succ d ih => simp [owTab, ih]
theorem owTab_head (n s u h r : List Int) (d : Nat) : rd_L1 (owTab n s u h r d) 0 = owRow n s u h r d := by
  cases d <;> rfl
theorem owTab_at (n s u h r : List Int) (d : Nat) : ∀ i : Nat, i ≤ d → rd_L1 (owTab n s u h r d) (i : Int) = owRow n s u h r (d - i) := by
  induction d with
  | zero =>
    intro i hi
    obtain rfl : i = 0 := by omega
    rfl
  | succ d ih =>
    intro i hi
    cases i with
    | zero => rfl
    | succ i =>
      have := ih i (by omega)
      simp only [rd_L1, Int.toNat_natCast, owTab, List.getD_cons_succ] at this ⊢
      rw [this]
      congr 1
      omega
theorem sum160 {n s u h : List Int} (c : OkCase n s u h) : 0 ≤ n.sum ∧ n.sum ≤ 160 := by
  have a := sum_take_bound n n.length 20 c.2.1 8 (by have := c.1; omega) (by omega)
  rw [List.take_of_length_le (Nat.le_refl _)] at a
  omega
theorem owTo_bd (f : Nat → Int) (k : Nat) (m : Int) (h0 : 0 ≤ m) (h : ∀ x, x < k → -1 ≤ f x ∧ f x ≤ m) : -1 ≤ owTo f k ∧ owTo f k ≤ m := by
  induction k with
  | zero => simp only [owTo]; omega
  | succ k ih =>
    have a := ih (fun x hx => h x (by omega))
    have b := h k (by omega)
    simp only [owTo]
    split
    · split
      · omega
      · split <;> omega
    · omega
theorem owG_bd {n s u h r : List Int} (c : OkCase n s u h) (f : Fits n r 9) : ∀ (d : Nat), d ≤ n.length → ∀ b, -n.sum ≤ b → b ≤ n.sum → -1 ≤ owG n s u h r d b ∧ owG n s u h r d b ≤ 3000000 * d := by
  have p := sum160 c
  have cl := c.1
  have fl := f.2
  intro d
  induction d with
  | zero => intro _ b _ _; simp only [owG]; split <;> omega
  | succ d ih =>
    intro hd b h0 h1
    simp only [owG]
    refine owTo_bd _ _ _ (by omega) (fun x hx => ?_)
    split
    · rename_i z
      have g := ih (by omega) _ z.1.1 z.1.2
      have l := lateR_bound c f.1 (show r.length = n.length by omega) (n.length - (d + 1)) (by omega) (x : Int) _ (show 0 ≤ (x : Int) ∧ (x : Int) ≤ 100000 by omega) (show -100000 ≤ b + x - rd n ((n.length - (d + 1) : Nat) : Int) ∧ b + x - rd n ((n.length - (d + 1) : Nat) : Int) ≤ 100000 by omega)
      have := z.2
      omega
    · omega

/-! owedV -/
/-- The two programmes. -/
theorem V_small {n s u h r : List Int} (c : impl_Case_bestLate.Ok n s u h r) (d o : Nat) (hd : d ≤ n.length) (ho : (o : Int) ≤ n.sum) (hv : impl_Case_bestLate.V n s u h r d o < 1099511627776) : impl_Case_bestLate.V n s u h r d o ≤ 4419 * d := by
  cases d with
  | zero => simp only [impl_Case_bestLate.V] at hv ⊢; split at hv <;> rename_i z
            · rw [if_pos z]; omega
            · omega
  | succ d =>
    have b := impl_Case_bestLate.step_bd c d o (n.sum.toNat - o) (by omega) (by have := impl_Case_bestLate.pre_bd c 0; omega)
    have v := impl_Case_bestLate.V_all c d (by omega)
    have p := impl_Case_bestLate.pre_bd c 0
    have l := impl_Case_bestLate.least_at (fun a => impl_Case_bestLate.rt s u h r (n.length - (d + 1)) (a : Int) ((o : Int) + a - impl_Case_bestLate.pre n (n.length - d)) + impl_Case_bestLate.V n s u h r d (o + a)) (n.sum.toNat - o + 1) (n.sum.toNat - o) (by omega)
    simp only [impl_Case_bestLate.V]
    simp only [show o + (n.sum.toNat - o) = n.sum.toNat by omega] at l
    omega
/-- Told of what both sides look at: never and -1 answer each other. -/
theorem least_owTo (f g : Nat → Int) (k : Nat) (hf : ∀ x, x < k → 0 ≤ f x) (hg : ∀ x, x < k → g x = if f x < 1099511627776 then f x else -1) : owTo g k = if impl_Case_bestLate.least f k < 1099511627776 then impl_Case_bestLate.least f k else -1 := by
  induction k with
  | zero => simp [owTo, impl_Case_bestLate.least]
  | succ k ih =>
    have e := ih (fun x hx => hf x (by omega)) (fun x hx => hg x (by omega))
    have a := hf k (by omega)
    have nn := impl_Case_bestLate.least_nn f k (fun x hx => hf x (by omega))
    have le := impl_Case_bestLate.least_le f k
    have s1 : owTo g (k + 1) = if 0 ≤ g k then (if owTo g k < 0 then g k else if g k < owTo g k then g k else owTo g k) else owTo g k := rfl
    have s2 : impl_Case_bestLate.least f (k + 1) = if f k < impl_Case_bestLate.least f k then f k else impl_Case_bestLate.least f k := rfl
    rw [s1, e, hg k (by omega)]
    clear s1 e ih hg hf
    generalize impl_Case_bestLate.least f (k + 1) = L at s2 ⊢
    generalize impl_Case_bestLate.least f k = M at s2 nn le ⊢
    generalize f k = F at s2 a ⊢
    by_cases w : F < M
    · rw [if_pos w] at s2; subst s2; repeat' split
      all_goals omega
    · rw [if_neg w] at s2; subst s2; repeat' split
      all_goals omega
theorem owTo_none (g : Nat → Int) (k : Nat) (h : ∀ x, x < k → g x < 0) : owTo g k = -1 := by
  induction k with
  | zero => rfl
  | succ k ih =>
    have a := h k (by omega)
    simp only [owTo]
    rw [if_neg (by omega)]
    exact ih (fun x hx => h x (by omega))
theorem owTo_cut (g : Nat → Int) (m : Nat) : ∀ k, (∀ x, m ≤ x → x < m + k → g x < 0) → owTo g (m + k) = owTo g m := by
  intro k
  induction k with
  | zero => intro _; rfl
  | succ k ih =>
    intro h
    show owTo g (m + k + 1) = _
    simp only [owTo]
    rw [if_neg (by have := h (m + k) (by omega) (by omega); omega)]
    exact ih (fun x h1 h2 => h x h1 (by omega))
theorem pre_succ (n : List Int) (t : Nat) (ht : t < n.length) : impl_Case_bestLate.pre n (t + 1) = impl_Case_bestLate.pre n t + rd n (t : Int) := sum_take_succ n t ht
theorem owG_V {n s u h r : List Int} (c : OkCase n s u h) (f : Fits n r 9) : ∀ (d : Nat), d ≤ n.length →
    (∀ o : Nat, (o : Int) ≤ n.sum → owG n s u h r d ((o : Int) - impl_Case_bestLate.pre n (n.length - d)) = if impl_Case_bestLate.V n s u h r d o < 1099511627776 then impl_Case_bestLate.V n s u h r d o else -1) ∧
    ∀ o : Nat, n.sum < (o : Int) → owG n s u h r d ((o : Int) - impl_Case_bestLate.pre n (n.length - d)) = -1 := by
  have B := bestOk c f
  have p := sum160 c
  intro d
  induction d with
  | zero =>
    intro _
    have e : impl_Case_bestLate.pre n (n.length - 0) = n.sum := by unfold impl_Case_bestLate.pre; rw [List.take_of_length_le (by omega)]
    rw [e]
    refine ⟨fun o ho => ?_, fun o ho => ?_⟩
    · have v0 : impl_Case_bestLate.V n s u h r 0 o = if (o : Int) = n.sum then 0 else 1099511627776 := rfl
      generalize impl_Case_bestLate.V n s u h r 0 o = v at v0 ⊢
      simp only [owG]
      by_cases z : (o : Int) = n.sum
      · rw [if_pos z] at v0; rw [if_pos (by omega), if_pos (by omega), v0]
      · rw [if_neg z] at v0; rw [if_neg (by omega), if_neg (by omega)]
    · simp only [owG]; rw [if_neg (by omega)]
  | succ d ih =>
    intro hd
    obtain ⟨i1, i2⟩ := ih (by omega)
    have pe := pre_succ n (n.length - (d + 1)) (by omega)
    rw [show n.length - (d + 1) + 1 = n.length - d by omega] at pe
    have pb := impl_Case_bestLate.pre_bd B (n.length - d)
    have key : ∀ (o x : Nat), (o : Int) - impl_Case_bestLate.pre n (n.length - (d + 1)) + (x : Int) - rd n ((n.length - (d + 1) : Nat) : Int) = ((o + x : Nat) : Int) - impl_Case_bestLate.pre n (n.length - d) := by intro o x; omega
    refine ⟨fun o ho => ?_, fun o ho => ?_⟩
    · have v1 : impl_Case_bestLate.V n s u h r (d + 1) o = impl_Case_bestLate.least (fun a => impl_Case_bestLate.rt s u h r (n.length - (d + 1)) (a : Int) ((o : Int) + a - impl_Case_bestLate.pre n (n.length - d)) + impl_Case_bestLate.V n s u h r d (o + a)) (n.sum.toNat - o + 1) := rfl
      rw [v1]
      simp only [owG, key]
      have e : n.sum.toNat + 1 = (n.sum.toNat - o + 1) + o := by omega
      rw [e, owTo_cut]
      · refine least_owTo _ _ _ (fun x hx => ?_) (fun x hx => ?_)
        · have := impl_Case_bestLate.step_bd B d o x (by omega) (by omega)
          have := (impl_Case_bestLate.V_bd B d (o + x) (by omega) (by omega)).1
          omega
        · have hs := impl_Case_bestLate.step_bd B d o x (by omega) (by omega)
          have hv := (impl_Case_bestLate.V_bd B d (o + x) (by omega) (by omega)).1
          have ie := i1 (o + x) (by omega)
          have el : ((o + x : Nat) : Int) - impl_Case_bestLate.pre n (n.length - d) = (o : Int) + (x : Int) - impl_Case_bestLate.pre n (n.length - d) := by omega
          rw [ie]
          by_cases z : impl_Case_bestLate.V n s u h r d (o + x) < 1099511627776
          · have vs := V_small B d (o + x) (by omega) (by omega) z
            have cl := c.1
            rw [if_pos z, if_pos ⟨⟨by omega, by omega⟩, hv⟩, if_pos (by omega), el]
            rfl
          · rw [if_neg z, if_neg (fun w => by have := w.2; omega), if_neg (by omega)]
      · intro x h1 h2
        have ie := i2 (o + x) (by omega)
        rw [ie, if_neg (fun w => by have := w.2; omega)]
        omega
    · simp only [owG, key]
      refine owTo_none _ _ (fun x hx => ?_)
      have ie := i2 (o + x) (by omega)
      rw [ie, if_neg (fun w => by have := w.2; omega)]
      omega

/-! l1In -/
theorem l1In_eq (a b c : Int) : spec_l1In.f a b c = some (decide (b ≤ a ∧ a ≤ c)) := by
  unfold spec_l1In.f
  by_cases h : a ≥ b
  · rw [if_pos h]; congr 1; rw [decide_eq_decide]; omega
  · rw [if_neg h]; congr 1; symm; rw [decide_eq_false_iff_not]; omega

/-! l4Least -/
theorem l4Least_eq (a b : Int) : spec_l4Least.f a b = some (if a < 0 then b else if b ≥ 0 then (if b < a then b else a) else a) := by
  unfold spec_l4Least.f
  repeat' split
  all_goals rfl

/-! l4Owe -/
theorem l4Owe_eq {n s u h r : List Int} (c : OkCase n s u h) (hr : ∀ x ∈ r, 0 ≤ x ∧ x ≤ 9) (hl : r.length = n.length) (t : Nat) (ht : t < n.length) (x b : Int) (hx : 0 ≤ x ∧ x ≤ 100000) (hb : -100000 ≤ b ∧ b ≤ 100000) :
    spec_l4Owe.f n s u h r (t : Int) x b = some (lateR s u h r t x b) := by
  have cl := c.1
  obtain ⟨p1, p2, p3, p4⟩ := late_parts c hr hl t ht x b hx hb
  unfold spec_l4Owe.f spec_l4Step.f lateR
  simp only [l1Most_eq, Option.bind_some]
  rw [mx_comm b 0, mx_comm _ 0, if_pos (by omega), if_pos (by omega), if_pos (by omega), w64 (x := -b) (by omega) (by omega), w64 (x := rd u (t : Int) * x) (by omega) (by omega), w64 (x := rd h (t : Int) * mx 0 b) (by omega) (by omega), w64 (x := rd r (t : Int) * mx 0 (-b)) (by omega) (by omega), w64 (x := rd u (t : Int) * x + rd h (t : Int) * mx 0 b) (by omega) (by omega)]
  by_cases z : x > 0
  · rw [if_pos z, if_pos (by omega), Option.bind_some, if_pos (by omega), if_pos (by omega), if_pos z, w64 (x := rd u (t : Int) * x + rd h (t : Int) * mx 0 b + rd s (t : Int)) (by omega) (by omega), w64 (by omega) (by omega)]; congr 1; omega
  · rw [if_neg z, Option.bind_some, if_pos (by omega), if_pos (by omega), if_neg z, w64 (by omega) (by omega)]; congr 1; omega

/-! l2Sum -/
theorem l2Sum_l0 (l : List Int) (i : Nat) (h1 : i ≤ l.length) (hl : l.length ≤ 2000) (hb : ∀ x ∈ l, 0 ≤ x ∧ x ≤ 1000000000) :
    Ev (fun k => spec_l2Sum.l0 k l (l.take i).sum (i : Int)) l.sum := by
  refine ev_succ ?_
  by_cases h : i < l.length
  · have a := sum_take_bound l i 1000000000 hb 2000 hl (by omega)
    have b := sum_take_bound l (i + 1) 1000000000 hb 2000 hl (by omega)
    rw [sum_take_succ l i h] at b
    simp (disch := omega) only [spec_l2Sum.l0, if_pos, w64]
    rw [← sum_take_succ l i h]
    exact l2Sum_l0 l (i + 1) (by omega) hl hb
  · simp (disch := omega) only [spec_l2Sum.l0, if_neg]
    exact ev_now (by rw [List.take_of_length_le (by omega)])
 termination_by l.length - i
theorem l2Sum_ev (l : List Int) (hl : l.length ≤ 2000) (hb : ∀ x ∈ l, 0 ≤ x ∧ x ≤ 1000000000) : Ev (fun k => spec_l2Sum.f k l) l.sum := by
  have h := l2Sum_l0 l 0 (by omega) hl hb
  simpa [spec_l2Sum.f] using h

/-! owedS -/
/-- What an amount of a period costs with what follows it. -/
def owF (n s u h r : List Int) (d : Nat) (b : Int) (x : Nat) : Int := if (-n.sum ≤ b + x - rd n ((n.length - (d + 1) : Nat) : Int) ∧ b + x - rd n ((n.length - (d + 1) : Nat) : Int) ≤ n.sum) ∧ 0 ≤ owG n s u h r d (b + x - rd n ((n.length - (d + 1) : Nat) : Int)) then lateR s u h r (n.length - (d + 1)) (x : Int) (b + x - rd n ((n.length - (d + 1) : Nat) : Int)) + owG n s u h r d (b + x - rd n ((n.length - (d + 1) : Nat) : Int)) else -1
theorem owTo_succ (f : Nat → Int) (k : Nat) : owTo f (k + 1) = if 0 ≤ f k then (if owTo f k < 0 then f k else if f k < owTo f k then f k else owTo f k) else owTo f k := rfl
theorem l4Owed_l3 {n s u h r : List Int} (c : OkCase n s u h) (f : Fits n r 9) (d : Nat) (hd : d < n.length) (b : Int) (h0 : -n.sum ≤ b) (h1 : b ≤ n.sum) (row : List Int) (hrow : row.length ≤ 1000) (R : List (List Int))
    (kk : Ev (fun k => spec_l4Owed.l2 k r n.sum (owTab n s u h r d) ((n.length - (d + 1) : Nat) : Int) (row ++ [owG n s u h r (d + 1) b]) (b + 1) n s u h) R) (e : Nat) :
    ∀ x : Nat, x + e = n.sum.toNat + 1 → Ev (fun k => spec_l4Owed.l3 k r n.sum (owTab n s u h r d) ((n.length - (d + 1) : Nat) : Int) row b (owTo (owF n s u h r d b) x) (x : Int) n s u h) R := by
  have p := sum160 c
  have cl := c.1
  have fl := f.2
  induction e with
  | zero =>
    intro x hx
    refine ev_succ ?_
    simp only [spec_l4Owed.l3]
    rw [w64 (x := b + 1) (by omega) (by omega)]
    refine ev_ifn (by omega) (ev_ifp (by omega) ?_)
    obtain rfl : x = n.sum.toNat + 1 := by omega
    exact kk
  | succ e ih =>
    intro x hx
    have nb := okc_n c (n.length - (d + 1)) (by omega)
    have ih1 := ih (x + 1) (by omega)
    rw [owTo_succ] at ih1
    refine ev_succ ?_
    simp only [spec_l4Owed.l3]
    rw [w64 (x := b + x) (by omega) (by omega), w64 (x := b + x - rd n ((n.length - (d + 1) : Nat) : Int)) (by omega) (by omega), w64 (x := b + x - rd n ((n.length - (d + 1) : Nat) : Int) + n.sum) (by omega) (by omega), w64 (x := -n.sum) (by omega) (by omega)]
    refine ev_ifp (by omega) (ev_ifp (by omega) (ev_ifp (by omega) ?_))
    simp only [l1In_eq, Option.bind_some]
    rw [owTab_head, owRow_len]
    have tl := owTab_len n s u h r d
    by_cases z : -n.sum ≤ b + x - rd n ((n.length - (d + 1) : Nat) : Int) ∧ b + x - rd n ((n.length - (d + 1) : Nat) : Int) ≤ n.sum
    · refine ev_ifp (by simpa using z) (ev_ifp (by omega) (ev_ifp (by omega) (ev_ifp (by omega) (ev_succ ?_))))
      simp only [spec_l4Owed.j4]
      rw [owRow_at n s u h r d _ z.1 z.2, owTab_head, owRow_len, w64 (x := b + x - rd n ((n.length - (d + 1) : Nat) : Int) + n.sum) (by omega) (by omega), owRow_at n s u h r d _ z.1 z.2, w64 (x := (x : Int) + 1) (by omega) (by omega)]
      have g := owG_bd c f d (by omega) _ z.1 z.2
      have lb := lateR_bound c f.1 (show r.length = n.length by omega) (n.length - (d + 1)) (by omega) (x : Int) _ (show 0 ≤ (x : Int) ∧ (x : Int) ≤ 100000 by omega) (show -100000 ≤ b + x - rd n ((n.length - (d + 1) : Nat) : Int) ∧ b + x - rd n ((n.length - (d + 1) : Nat) : Int) ≤ 100000 by omega)
      by_cases q : 0 ≤ owG n s u h r d (b + x - rd n ((n.length - (d + 1) : Nat) : Int))
      · have eF : owF n s u h r d b x = lateR s u h r (n.length - (d + 1)) (x : Int) (b + x - rd n ((n.length - (d + 1) : Nat) : Int)) + owG n s u h r d (b + x - rd n ((n.length - (d + 1) : Nat) : Int)) := by unfold owF; rw [if_pos ⟨z, q⟩]
        rw [eF] at ih1
        simp only [l4Owe_eq c f.1 (show r.length = n.length by omega) (n.length - (d + 1)) (by omega) (x : Int) (b + x - rd n ((n.length - (d + 1) : Nat) : Int)) (by omega) (by omega), Option.bind_some]
        rw [w64 (x := lateR s u h r (n.length - (d + 1)) (x : Int) (b + x - rd n ((n.length - (d + 1) : Nat) : Int)) + owG n s u h r d (b + x - rd n ((n.length - (d + 1) : Nat) : Int))) (by omega) (by omega)]
        refine ev_ifp (by simpa using q) (ev_ifp (by omega) (ev_ifp (by omega) (ev_ifp (by omega) ?_)))
        simp only [l4Least_eq, Option.bind_some]
        have nn : lateR s u h r (n.length - (d + 1)) (x : Int) (b + x - rd n ((n.length - (d + 1) : Nat) : Int)) + owG n s u h r d (b + x - rd n ((n.length - (d + 1) : Nat) : Int)) ≥ 0 := by omega
        rw [if_pos nn] at ih1 ⊢
        exact ih1
      · have eF : owF n s u h r d b x = -1 := by unfold owF; rw [if_neg (fun y => q y.2)]
        rw [eF, if_neg (by omega)] at ih1
        exact ev_ifn (by simpa using q) ih1
    · have eF : owF n s u h r d b x = -1 := by unfold owF; rw [if_neg (fun y => z y.1)]
      rw [eF, if_neg (by omega)] at ih1
      refine ev_ifn (by simpa using z) (ev_succ ?_)
      simp only [spec_l4Owed.j4]
      rw [w64 (x := (x : Int) + 1) (by omega) (by omega)]
      exact ev_ifn (by simp) ih1
def owPart (n s u h r : List Int) (d j : Nat) : List Int := (List.range j).map fun j : Nat => owG n s u h r d ((j : Int) - n.sum)
theorem l4Owed_l2 {n s u h r : List Int} (c : OkCase n s u h) (f : Fits n r 9) (d : Nat) (hd : d < n.length) (R : List (List Int))
    (kk : Ev (fun k => spec_l4Owed.l1 k r n.sum (owTab n s u h r (d + 1)) (((n.length - (d + 1) : Nat) : Int) - 1) n s u h) R) (e : Nat) :
    ∀ j : Nat, j + e = 2 * n.sum.toNat + 1 → Ev (fun k => spec_l4Owed.l2 k r n.sum (owTab n s u h r d) ((n.length - (d + 1) : Nat) : Int) (owPart n s u h r (d + 1) j) ((j : Int) - n.sum) n s u h) R := by
  have p := sum160 c
  have cl := c.1
  induction e with
  | zero =>
    intro j hj
    have tl := owTab_len n s u h r d
    refine ev_succ ?_
    simp only [spec_l4Owed.l2, Option.bind_some, List.length_singleton]
    rw [w64 (x := ((n.length - (d + 1) : Nat) : Int) - 1) (by omega) (by omega)]
    refine ev_ifn (by omega) (ev_ifp (by omega) ?_)
    obtain rfl : j = 2 * n.sum.toNat + 1 := by omega
    exact kk
  | succ e ih =>
    intro j hj
    refine ev_succ ?_
    simp only [spec_l4Owed.l2]
    refine ev_ifp (by omega) ?_
    refine l4Owed_l3 c f d hd _ (by omega) (by omega) _ (by unfold owPart; rw [List.length_map, List.length_range]; omega) R ?_ (n.sum.toNat + 1) 0 (by omega)
    have := ih (j + 1) (by omega)
    rw [show owPart n s u h r (d + 1) (j + 1) = owPart n s u h r (d + 1) j ++ [owG n s u h r (d + 1) ((j : Int) - n.sum)] by unfold owPart; rw [List.range_succ, List.map_append]; rfl, show ((j + 1 : Nat) : Int) - n.sum = (j : Int) - n.sum + 1 by omega] at this
    exact this
theorem l4Owed_l1 {n s u h r : List Int} (c : OkCase n s u h) (f : Fits n r 9) (e : Nat) :
    ∀ d : Nat, d + e = n.length → Ev (fun k => spec_l4Owed.l1 k r n.sum (owTab n s u h r d) (((n.length - d : Nat) : Int) - 1) n s u h) (owTab n s u h r n.length) := by
  have p := sum160 c
  have cl := c.1
  induction e with
  | zero =>
    intro d hd
    obtain rfl : d = n.length := by omega
    refine ev_succ ?_
    simp only [spec_l4Owed.l1]
    exact ev_ifn (by omega) (ev_now rfl)
  | succ e ih =>
    intro d hd
    refine ev_succ ?_
    simp only [spec_l4Owed.l1]
    rw [w64 (x := -n.sum) (by omega) (by omega), show ((n.length - d : Nat) : Int) - 1 = ((n.length - (d + 1) : Nat) : Int) by omega]
    refine ev_ifp (by omega) ?_
    have := l4Owed_l2 c f d (by omega) _ (ih (d + 1) (by omega)) (2 * n.sum.toNat + 1) 0 (by omega)
    rw [show ((0 : Nat) : Int) - n.sum = -n.sum by omega] at this
    exact this
theorem owRow0 (n s u h r : List Int) (h0 : 0 ≤ n.sum) : (List.replicate (2 * n.sum.toNat + 1) (-1)).set n.sum.toNat 0 = owRow n s u h r 0 := by
  refine eq_of_get (by rw [List.length_set, List.length_replicate, owRow_len]) (fun j hj => ?_)
  rw [List.length_set, List.length_replicate] at hj
  rw [set_get _ _ _ _ (by rw [List.length_replicate]; omega)]
  unfold owRow
  rw [List.getElem?_map, List.getElem?_range hj, Option.map_some, owG]
  by_cases z : j = n.sum.toNat
  · rw [if_pos z, if_pos (by omega)]
  · rw [if_neg z, if_neg (by omega), List.getElem?_replicate, if_pos (by omega)]
theorem l4Owed_l0 {n s u h r : List Int} (c : OkCase n s u h) (f : Fits n r 9) (e : Nat) :
    ∀ j : Nat, j + e = 2 * n.sum.toNat + 1 → Ev (fun k => spec_l4Owed.l0 k r n.sum (List.replicate j (-1)) ((j : Int) - n.sum) n s u h) (owTab n s u h r n.length) := by
  have p := sum160 c
  have cl := c.1
  induction e with
  | zero =>
    intro j hj
    obtain rfl : j = 2 * n.sum.toNat + 1 := by omega
    refine ev_succ ?_
    simp only [spec_l4Owed.l0, List.length_replicate]
    rw [w64 (x := (n.length : Int) - 1) (by omega) (by omega), owRow0 n s u h r p.1]
    refine ev_ifn (by omega) (ev_ifp (by omega) (ev_ifp (by omega) ?_))
    exact l4Owed_l1 c f n.length 0 (by omega)
  | succ e ih =>
    intro j hj
    refine ev_succ ?_
    simp only [spec_l4Owed.l0, List.length_replicate]
    rw [w64 (x := (j : Int) - n.sum + 1) (by omega) (by omega)]
    refine ev_ifp (by omega) (ev_ifp (by omega) ?_)
    have := ih (j + 1) (by omega)
    rw [List.replicate_succ', show ((j + 1 : Nat) : Int) - n.sum = (j : Int) - n.sum + 1 by omega] at this
    exact this
theorem l4Owed_ev {n s u h r : List Int} (c : OkCase n s u h) (f : Fits n r 9) : Ev (fun k => spec_l4Owed.f k n s u h r) (owTab n s u h r n.length) := by
  have p := sum160 c
  have cl := c.1
  unfold spec_l4Owed.f
  refine ev_bind (l2Sum_ev n (by omega) (fun x hx => by have := c.2.1 x hx; omega)) ?_
  simp only [w64 (x := -n.sum) (by omega) (by omega)]
  have := l4Owed_l0 c f (2 * n.sum.toNat + 1) 0 (by omega)
  rw [show ((0 : Nat) : Int) - n.sum = -n.sum by omega] at this
  exact this
/-! owed0 -/
theorem pre_zero (n : List Int) : impl_Case_bestLate.pre n 0 = 0 := by simp [impl_Case_bestLate.pre]
/-- The cells of the two programmes' tables, both told by the reference's own words. -/
theorem owG_lt {n s u h r : List Int} (c : OkCase n s u h) (f : Fits n r 9) (d o : Nat) (hd : d + 1 ≤ n.length) (ho : (o : Int) ≤ n.sum) : owG n s u h r (d + 1) ((o : Int) - impl_Case_bestLate.pre n (n.length - (d + 1))) = impl_Case_bestLate.V n s u h r (d + 1) o := by
  rw [(owG_V c f (d + 1) hd).1 o ho, if_pos (impl_Case_bestLate.V_lt (bestOk c f) d o (by omega) ho)]

/-! leastR -/
def LeastLateR (n s u h r : List Int) : Int × Bool := if OkCase n s u h ∧ Fits n r 9 then (impl_Case_bestLate.V n s u h r n.length 0, true) else (0, false)
theorem owG_0 {n s u h r : List Int} (c : OkCase n s u h) (f : Fits n r 9) : owG n s u h r n.length 0 = impl_Case_bestLate.V n s u h r n.length 0 := by
  have B := bestOk c f
  have p := sum160 c
  have e := (owG_V c f n.length (Nat.le_refl _)).1 0 (by omega)
  rw [Nat.sub_self, pre_zero, show ((0 : Nat) : Int) - 0 = 0 by omega] at e
  rw [e]
  cases hl : n.length with
  | zero =>
    have : n = [] := List.length_eq_zero_iff.mp hl
    subst this
    rfl
  | succ d => rw [if_pos (impl_Case_bestLate.V_lt B d 0 (by omega) (by omega))]

/-! l2Row -/
theorem l2Row_l0 (l : List Int) (n hi : Int) (i : Nat) (h1 : i ≤ l.length) (hl : l.length ≤ 2000000) :
    Ev (fun k => spec_l2Row.l0 k l n hi (i : Int)) (decide ((∀ x ∈ l.drop i, 0 ≤ x ∧ x ≤ hi) ∧ (l.length : Int) = n)) := by
  refine ev_succ ?_
  by_cases h : i < l.length
  · simp (disch := omega) only [spec_l2Row.l0, if_pos, l1In_eq, Option.bind_some, w64]
    rw [drop_rd l i h]
    by_cases c : 0 ≤ rd l i ∧ rd l i ≤ hi
    · refine ev_ifp (by simpa using c) ?_
      refine ev_to (l2Row_l0 l n hi (i + 1) (by omega) hl) ?_
      rw [decide_eq_decide]; simp [c]
    · refine ev_ifn (by simpa using c) (ev_now ?_)
      symm; rw [decide_eq_false_iff_not]; simp [c]
  · simp (disch := omega) only [spec_l2Row.l0, if_neg]
    exact ev_now (by
      rw [List.drop_eq_nil_of_le (show l.length ≤ i by omega)]
      rw [Bool.eq_iff_iff]; simp)
 termination_by l.length - i
theorem l2Row_ev (l : List Int) (n hi : Int) (hl : l.length ≤ 2000000) : Ev (fun k => spec_l2Row.f k l n hi) (decide ((∀ x ∈ l, 0 ≤ x ∧ x ≤ hi) ∧ (l.length : Int) = n)) := by
  have h := l2Row_l0 l n hi 0 (by omega) hl
  simpa [spec_l2Row.f] using h

/-! l2Good -/
theorem l2Good_ev (n s u h : List Int) (hn : n.length ≤ 2000000) (hs : s.length ≤ 2000000) (hu : u.length ≤ 2000000) (hh : h.length ≤ 2000000) : Ev (fun k => spec_l2Good.f k n s u h) (decide (OkCase n s u h)) := by
  unfold spec_l2Good.f
  by_cases c : (n.length : Int) ≤ 8
  · refine ev_ifp c (ev_bind (l2Row_ev n _ 20 hn) ?_)
    by_cases c1 : ∀ x ∈ n, 0 ≤ x ∧ x ≤ 20
    · refine ev_ifp (by simpa using c1) (ev_bind (l2Row_ev s _ 99 hs) ?_)
      by_cases c2 : (∀ x ∈ s, 0 ≤ x ∧ x ≤ 99) ∧ (s.length : Int) = n.length
      · refine ev_ifp (by rw [decide_eq_true_iff]; exact c2) (ev_bind (l2Row_ev u _ 9 hu) ?_)
        by_cases c3 : (∀ x ∈ u, 0 ≤ x ∧ x ≤ 9) ∧ (u.length : Int) = n.length
        · refine ev_ifp (by rw [decide_eq_true_iff]; exact c3) (ev_bind (l2Row_ev h _ 9 hh) (ev_now ?_))
          rw [decide_eq_decide]
          exact ⟨fun z => ⟨⟨by omega, by omega, by omega, by omega⟩, c1, c2.1, c3.1, z.1⟩, fun z => ⟨z.2.2.2.2, by have := z.1.2.2.2; omega⟩⟩
        · refine ev_ifn (by rw [decide_eq_true_iff]; exact c3) (ev_now ?_)
          symm; rw [decide_eq_false_iff_not]; exact fun z => c3 ⟨z.2.2.2.1, by have := z.1.2.2.1; omega⟩
      · refine ev_ifn (by rw [decide_eq_true_iff]; exact c2) (ev_now ?_)
        symm; rw [decide_eq_false_iff_not]; exact fun z => c2 ⟨z.2.2.1, by have := z.1.2.1; omega⟩
    · refine ev_ifn (by simpa using c1) (ev_now ?_)
      symm; rw [decide_eq_false_iff_not]; exact fun z => c1 z.2.1
  · refine ev_ifn c (ev_now ?_)
    symm; rw [decide_eq_false_iff_not]; exact fun z => c (by have := z.1.1; omega)

/-! l4Rates -/
theorem l4Rates_ev (n s u h l : List Int) (hl : l.length ≤ 2000000) (hn : n.length ≤ 2000000) (hs : s.length ≤ 2000000) (hu : u.length ≤ 2000000) (hh : h.length ≤ 2000000) : Ev (fun k => spec_l4Rates.f k n s u h l) (decide (OkCase n s u h ∧ Fits n l 9)) := by
  unfold spec_l4Rates.f
  refine ev_bind (l2Good_ev n s u h hn hs hu hh) ?_
  by_cases c : OkCase n s u h
  · refine ev_ifp (by simpa using c) (ev_bind (l2Row_ev l _ 9 hl) (ev_now ?_))
    rw [decide_eq_decide]; exact ⟨fun z => ⟨c, z⟩, fun z => z.2⟩
  · refine ev_ifn (by simpa using c) (ev_now ?_)
    symm; rw [decide_eq_false_iff_not]; exact fun z => c z.1

/-! spec_LeastLate -/
theorem spec_LeastLate_ev (n s u h r : List Int) (hr : r.length ≤ 2000000) (hn : n.length ≤ 2000000) (hs : s.length ≤ 2000000) (hu : u.length ≤ 2000000) (hh : h.length ≤ 2000000) : Ev (fun k => spec_LeastLate.f k n s u h r) (LeastLateR n s u h r) := by
  unfold spec_LeastLate.f LeastLateR
  refine ev_bind (l4Rates_ev n s u h r hr hn hs hu hh) ?_
  by_cases c : OkCase n s u h ∧ Fits n r 9
  · rw [if_pos c]
    have p := sum160 c.1
    have cl := c.1.1
    have tl := owTab_len n s u h r n.length
    have e := owRow_at n s u h r n.length 0 (by omega) (by omega)
    rw [Int.zero_add, owG_0 c.1 c.2] at e
    refine ev_ifp (by rw [decide_eq_true_iff]; exact c) (ev_bind (l4Owed_ev c.1 c.2) (ev_ifp (by omega) (ev_bind (l2Sum_ev n (by omega) (fun x hx => by have := c.1.2.1 x hx; omega)) ?_)))
    rw [owTab_head, owRow_len, e]
    exact ev_ifp (by omega) (ev_ifp (by omega) (ev_now rfl))
  · rw [if_neg c]; exact ev_ifn (by rw [decide_eq_true_iff]; exact c) (ev_now rfl)

/-! within -/
theorem within_eq (a b c : Int) : impl_within.f a b c = some (decide (b ≤ a ∧ a ≤ c)) := by
  unfold impl_within.f
  by_cases h : a ≥ b
  · rw [if_pos h]; congr 1; rw [decide_eq_decide]; omega
  · rw [if_neg h]; congr 1; symm; rw [decide_eq_false_iff_not]; omega

/-! allWithin -/
theorem allWithin_l0 (l : List Int) (lo hi : Int) (i : Nat) (h1 : i ≤ l.length) (hl : l.length ≤ 2000000) :
    Ev (fun k => impl_allWithin.l0 k lo hi l (l.length : Int) (i : Int)) (decide (∀ x ∈ l.drop i, lo ≤ x ∧ x ≤ hi)) := by
  refine ev_succ ?_
  by_cases h : i < l.length
  · simp (disch := omega) only [impl_allWithin.l0, if_pos, within_eq, Option.bind_some, w64]
    rw [drop_rd l i h]
    by_cases c : lo ≤ rd l i ∧ rd l i ≤ hi
    · refine ev_ifp (by simpa using c) ?_
      refine ev_to (allWithin_l0 l lo hi (i + 1) (by omega) hl) ?_
      rw [decide_eq_decide]; simp [c]
    · refine ev_ifn (by simpa using c) (ev_now ?_)
      symm; rw [decide_eq_false_iff_not]; simp [c]
  · simp (disch := omega) only [impl_allWithin.l0, if_neg]
    exact ev_now (by simp [List.drop_eq_nil_of_le (show l.length ≤ i by omega)])
 termination_by l.length - i
theorem allWithin_ev (l : List Int) (lo hi : Int) (hl : l.length ≤ 2000000) : Ev (fun k => impl_allWithin.f k l lo hi) (decide (∀ x ∈ l, lo ≤ x ∧ x ≤ hi)) := by
  have h := allWithin_l0 l lo hi 0 (by omega) hl
  simpa [impl_allWithin.f] using h

/-! IsCase -/
theorem IsCase_ev (n s u h : List Int) (hn : n.length ≤ 2000000) (hs : s.length ≤ 2000000) (hu : u.length ≤ 2000000) (hh : h.length ≤ 2000000) : Ev (fun k => impl_IsCase.f k n s u h) (decide (OkCase n s u h)) := by
  unfold impl_IsCase.f
  by_cases c : n.length ≤ 8 ∧ s.length = n.length ∧ u.length = n.length ∧ h.length = n.length
  · refine ev_ifp (by omega) (ev_ifp (by omega) (ev_ifp (by omega) (ev_ifp (by omega) (ev_bind (allWithin_ev n 0 20 hn) ?_))))
    by_cases c1 : ∀ x ∈ n, 0 ≤ x ∧ x ≤ 20
    · refine ev_ifp (by simpa using c1) (ev_bind (allWithin_ev s 0 99 hs) ?_)
      by_cases c2 : ∀ x ∈ s, 0 ≤ x ∧ x ≤ 99
      · refine ev_ifp (by simpa using c2) (ev_bind (allWithin_ev u 0 9 hu) ?_)
        by_cases c3 : ∀ x ∈ u, 0 ≤ x ∧ x ≤ 9
        · refine ev_ifp (by simpa using c3) (ev_bind (allWithin_ev h 0 9 hh) (ev_now ?_))
          rw [decide_eq_decide]
          exact ⟨fun z => ⟨c, c1, c2, c3, z⟩, fun z => z.2.2.2.2⟩
        · refine ev_ifn (by simpa using c3) (ev_now ?_)
          symm; rw [decide_eq_false_iff_not]; exact fun z => c3 z.2.2.2.1
      · refine ev_ifn (by simpa using c2) (ev_now ?_)
        symm; rw [decide_eq_false_iff_not]; exact fun z => c2 z.2.2.1
    · refine ev_ifn (by simpa using c1) (ev_now ?_)
      symm; rw [decide_eq_false_iff_not]; exact fun z => c1 z.2.1
  · have hf : decide (OkCase n s u h) = false := by rw [decide_eq_false_iff_not]; exact fun z => c z.1
    rw [hf]
    by_cases a : (n.length : Int) ≤ 8
    · refine ev_ifp a ?_
      by_cases b : (s.length : Int) = n.length
      · refine ev_ifp b ?_
        by_cases d : (u.length : Int) = n.length
        · exact ev_ifp d (ev_ifn (fun e => c ⟨by omega, by omega, by omega, by omega⟩) (ev_now rfl))
        · exact ev_ifn d (ev_now rfl)
      · exact ev_ifn b (ev_now rfl)
    · exact ev_ifn a (ev_now rfl)

/-! areRates -/
theorem areRates_ev (n s u h l : List Int) (hl : l.length ≤ 2000000) (hn : n.length ≤ 2000000) (hs : s.length ≤ 2000000) (hu : u.length ≤ 2000000) (hh : h.length ≤ 2000000) : Ev (fun k => impl_areRates.f k n s u h l) (decide (OkCase n s u h ∧ Fits n l 9)) := by
  unfold impl_areRates.f
  refine ev_bind (IsCase_ev n s u h hn hs hu hh) ?_
  by_cases c : OkCase n s u h
  · refine ev_ifp (by simpa using c) ?_
    by_cases a : (l.length : Int) = n.length
    · refine ev_ifp a (ev_bind (allWithin_ev l 0 9 hl) (ev_now ?_))
      rw [decide_eq_decide]; exact ⟨fun z => ⟨c, z, a⟩, fun z => z.2.1⟩
    · refine ev_ifn a (ev_now ?_)
      symm; rw [decide_eq_false_iff_not]; exact fun z => a z.2.2
  · refine ev_ifn (by simpa using c) (ev_now ?_)
    symm; rw [decide_eq_false_iff_not]; exact fun z => c z.1

/-! LeastLate -/
theorem LeastLate_ev (n s u h r : List Int) (hr : r.length ≤ 2000000) (hn : n.length ≤ 2000000) (hs : s.length ≤ 2000000) (hu : u.length ≤ 2000000) (hh : h.length ≤ 2000000) : Ev (fun k => impl_LeastLate.f k n s u h r) (LeastLateR n s u h r) := by
  unfold impl_LeastLate.f LeastLateR
  refine ev_bind (areRates_ev n s u h r hr hn hs hu hh) ?_
  by_cases c : OkCase n s u h ∧ Fits n r 9
  · rw [if_pos c]
    refine ev_ifp (by rw [decide_eq_true_iff]; exact c) ?_
    unfold impl_Case_bestLate.f
    rw [if_pos (bestOk c.1 c.2)]
    exact ev_now rfl
  · rw [if_neg c]; exact ev_ifn (by rw [decide_eq_true_iff]; exact c) (ev_now rfl)

/-! LAW FnExactLeastLate -/
theorem FnExactLeastLate (n s u h r : List Int) (mn : n.length ≤ maxLen) (ms : s.length ≤ maxLen) (mu : u.length ≤ maxLen) (mh : h.length ≤ maxLen) (_ : r.length ≤ maxLen) : ∃ k, laws_FnExactLeastLate.f k n s u h r = some true := by
  refine Ev.rounds ?_
  unfold laws_FnExactLeastLate.f
  by_cases h0 : (r.length : Int) > 1048576
  · exact ev_ifp h0 (ev_now rfl)
  refine ev_ifn h0 ?_
  have hr : r.length ≤ 2000000 := by omega
  rcases szCase_eq n s u h mn ms mu mh 1048576 (by omega) (by omega) with z | ⟨z, zl⟩
  · rw [z]; simp only [Option.bind_some]; exact ev_ifp (by omega) (ev_now rfl)
  rw [z]; simp only [Option.bind_some]
  refine ev_ifn (by omega) ?_
  clear z mn ms mu mh
  have hn : n.length ≤ 2000000 := by omega
  have hs_ : s.length ≤ 2000000 := by omega
  have hu : u.length ≤ 2000000 := by omega
  have hh : h.length ≤ 2000000 := by omega
  have hs := spec_LeastLate_ev n s u h r hr hn hs_ hu hh
  have hi := LeastLate_ev n s u h r hr hn hs_ hu hh
  repeat (first
    | exact ev_now rfl
    | refine ev_bind hs ?_
    | refine ev_bind hi ?_
    | (refine ev_bind (toIntS_ev _ ?_) ?_; first | assumption | omega)
    | (refine ev_bind (eqIntS_ev _ ?_) ?_; first | assumption | omega)
    | (refine ev_bind (toCase_ev _ _ _ _ ?_ ?_ ?_ ?_) ?_; assumption; assumption; assumption; assumption)
    | (refine ev_bind (eqCase_ev _ _ _ _ ?_ ?_ ?_ ?_) ?_; assumption; assumption; assumption; assumption)
    | (refine ev_ifp ?_ ?_; first | rfl | omega | focus (simp; done))
    | (refine ev_ifn ?_ ?_; first | omega | focus (simp; done))
    | (refine ev_succ ?_; simp only [laws_FnExactLeastLate.j0]))

end Go.Proofs.Ytnojmhcmngejnaa.Pure
