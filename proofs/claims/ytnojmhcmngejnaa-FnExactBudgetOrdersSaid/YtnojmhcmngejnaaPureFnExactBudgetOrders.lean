/- The pure statement of the law FnExactBudgetOrders: what the program's function answers is what the reference answers, for all arguments of the kinds of its parameters. -/
import Derived.Test.YtnojmhcmngejnaaQFnExactBudgetOrdersx9
import Derived.Test.YtnojmhcmngejnaaBase
namespace Go.Proofs.Ytnojmhcmngejnaa.Pure
set_option linter.unusedSimpArgs false
open Go.RowKit Go.Proofs.Ytnojmhcmngejnaa.PFnExactBudgetOrders Go.Proofs.YtnojmhcmngejnaaW.PrintWords Go.Proofs.YtnojmhcmngejnaaW.PrintLast Go.Proofs.Ytnojmhcmngejnaa.Base

/-! szIntS -/
theorem szIntS_eq (l : List Int) (a : Int) (h : l.length ≤ maxLen) (h0 : 0 ≤ a) (h1 : a ≤ 1048576) : laws_szIntS.f l a = some (if a < l.length then -1 else a - l.length) := by
  unfold maxLen at h
  unfold laws_szIntS.f
  rw [w64 (by omega) (by omega)]
  by_cases c : a < l.length
  · rw [if_pos c, if_pos (by omega)]
  · rw [if_neg c, if_neg (by omega)]

/-! rows -/
/-- Rows of rows: place by place. -/
theorem rdL_nat (g : List (List Int)) (i : Nat) : rd_L1 g (i : Int) = g.getD i [] := by simp [rd_L1]
theorem rdL_get (g : List (List Int)) (i : Nat) (h : i < g.length) : rd_L1 g (i : Int) = g[i] := by rw [rdL_nat]; simp [List.getD_eq_getElem?_getD, h]
theorem rdL_mem (g : List (List Int)) (i : Nat) (h : i < g.length) : rd_L1 g (i : Int) ∈ g := by rw [rdL_get g i h]; exact List.getElem_mem h
theorem eq_of_getL {l m : List (List Int)} (hl : l.length = m.length) (h : ∀ j, j < l.length → l[j]? = m[j]?) : l = m := by
  apply List.ext_getElem?
  intro j
  by_cases hj : j < l.length
  · exact h j hj
  · rw [List.getElem?_eq_none (by omega), List.getElem?_eq_none (by omega)]

/-! tl -/
/-- The numbers of the rows from place i on. -/
def tl (g : List (List Int)) (i : Nat) : Nat := ((g.drop i).map List.length).sum
theorem tl_succ (g : List (List Int)) (i : Nat) (h : i < g.length) : tl g i = g[i].length + tl g (i + 1) := by
  unfold tl; rw [List.drop_eq_getElem_cons h]; simp only [List.map_cons, List.sum_cons]
theorem tl_end (g : List (List Int)) (i : Nat) (h : g.length ≤ i) : tl g i = 0 := by
  unfold tl; rw [List.drop_eq_nil_of_le h]; rfl
theorem tl_row (g : List (List Int)) (x : List Int) (hx : x ∈ g) : x.length ≤ tl g 0 := by
  unfold tl; rw [List.drop_zero]
  induction g with
  | nil => cases hx
  | cons a t ih =>
    simp only [List.map_cons, List.sum_cons]
    rcases List.mem_cons.1 hx with rfl | h
    · omega
    · have := ih h; omega

/-! szIntSS -/
theorem szIntSS_l0 (g : List (List Int)) (hg : g.length ≤ 2000000) (hr : ∀ x ∈ g, x.length ≤ maxLen) (d : Nat) : ∀ (i : Nat) (a : Int), i + d = g.length → 0 ≤ a → a ≤ 1048576 → (∃ r, r < 0 ∧ Ev (fun k => laws_szIntSS.l0 k g a (i : Int)) r) ∨ (∃ r, 0 ≤ r ∧ Ev (fun k => laws_szIntSS.l0 k g a (i : Int)) r ∧ (tl g i : Int) ≤ a) := by
  induction d with
  | zero =>
    intro i a hd h0 h1
    right
    refine ⟨a, h0, ev_succ ?_, by rw [tl_end g i (by omega)]; exact h0⟩
    simp (disch := omega) only [laws_szIntSS.l0, if_neg]
    exact ev_now rfl
  | succ d ih =>
    intro i a hd h0 h1
    have hi : i < g.length := by omega
    have e := szIntS_eq (rd_L1 g (i : Int)) a (hr _ (rdL_mem g i hi)) h0 h1
    by_cases c : a < (rd_L1 g (i : Int)).length
    · left
      rw [if_pos c] at e
      refine ⟨-1, by omega, ev_succ ?_⟩
      simp (disch := omega) only [laws_szIntSS.l0, if_pos, e, Option.bind_some]
      exact ev_now rfl
    · rw [if_neg c] at e
      have step : ∀ r, Ev (fun k => laws_szIntSS.l0 k g (a - ((rd_L1 g (i : Int)).length : Int)) ((i + 1 : Nat) : Int)) r → Ev (fun k => laws_szIntSS.l0 k g a (i : Int)) r := by
        intro r hr
        refine ev_succ ?_
        simp (disch := omega) only [laws_szIntSS.l0, if_pos, e, Option.bind_some, if_neg, w64]
        exact hr
      rcases ih (i + 1) (a - ((rd_L1 g (i : Int)).length : Int)) (by omega) (by omega) (by omega) with ⟨r, hr, h⟩ | ⟨r, hr, h, hl⟩
      · exact .inl ⟨r, hr, step r h⟩
      · refine .inr ⟨r, hr, step r h, ?_⟩
        rw [tl_succ g i hi]
        rw [rdL_get g i hi] at hl c
        omega
theorem szIntSS_ev (g : List (List Int)) (hg : g.length ≤ maxLen) (hr : ∀ x ∈ g, x.length ≤ maxLen) (a : Int) (h0 : 0 ≤ a) (h1 : a ≤ 1048576) : (∃ r, r < 0 ∧ Ev (fun k => laws_szIntSS.f k g a) r) ∨ (∃ r, 0 ≤ r ∧ Ev (fun k => laws_szIntSS.f k g a) r ∧ g.length ≤ 1048576 ∧ tl g 0 ≤ 1048576) := by
  unfold maxLen at hg
  by_cases c : a < g.length
  · left
    refine ⟨-1, by omega, ?_⟩
    unfold laws_szIntSS.f
    rw [w64 (by omega) (by omega)]
    exact ev_ifp (by omega) (ev_now rfl)
  · have step : ∀ r, Ev (fun k => laws_szIntSS.l0 k g (a - (g.length : Int)) ((0 : Nat) : Int)) r → Ev (fun k => laws_szIntSS.f k g a) r := by
      intro r hr
      unfold laws_szIntSS.f
      rw [w64 (by omega) (by omega)]
      exact ev_ifn (by omega) hr
    rcases szIntSS_l0 g (by omega) hr g.length 0 (a - (g.length : Int)) (by omega) (by omega) (by omega) with ⟨r, hr, h⟩ | ⟨r, hr, h, hl⟩
    · exact .inl ⟨r, hr, step r h⟩
    · exact .inr ⟨r, hr, step r h, by omega, by omega⟩

/-! toIntS -/
theorem toIntS_l0 (l acc : List Int) (i : Nat) (hi : i ≤ l.length) (hl : l.length ≤ 2000000) (ha : acc.length = l.length) (hg : ∀ j, j < i → acc[j]? = l[j]?) :
    Ev (fun k => laws_toIntS.l0 k l acc (i : Int)) l := by
  refine ev_succ ?_
  by_cases h : i < l.length
  · simp (disch := omega) only [laws_toIntS.l0, if_pos, w64, Int.toNat_natCast]
    refine toIntS_l0 l (acc.set i (rd l i)) (i + 1) (by omega) hl (by simpa using ha) (fun j hj => ?_)
    rw [set_get _ _ _ _ (by omega)]
    by_cases e : j = i
    · subst e; rw [if_pos rfl, get_rd l j h]
    · rw [if_neg e]; exact hg j (by omega)
  · simp (disch := omega) only [laws_toIntS.l0, if_neg]
    exact ev_now (eq_of_get ha fun j hj => hg j (by omega))
 termination_by l.length - i
theorem toIntS_ev (l : List Int) (hl : l.length ≤ 2000000) : Ev (fun k => laws_toIntS.f k l) l := by
  simp (disch := omega) only [laws_toIntS.f, if_pos, Int.toNat_natCast]
  exact toIntS_l0 l _ 0 (by omega) hl (by simp) (fun j hj => by omega)

/-! toIntSS -/
theorem toIntSS_l0 (g acc : List (List Int)) (i : Nat) (hi : i ≤ g.length) (hg : g.length ≤ 2000000) (hr : ∀ x ∈ g, x.length ≤ 2000000) (ha : acc.length = g.length) (hq : ∀ j, j < i → acc[j]? = g[j]?) :
    Ev (fun k => laws_toIntSS.l0 k g acc (i : Int)) g := by
  refine ev_succ ?_
  by_cases h : i < g.length
  · simp (disch := omega) only [laws_toIntSS.l0, if_pos, w64, Int.toNat_natCast]
    refine ev_bind (toIntS_ev _ (hr _ (rdL_mem g i h))) ?_
    refine toIntSS_l0 g (acc.set i (rd_L1 g i)) (i + 1) (by omega) hg hr (by simpa using ha) (fun j hj => ?_)
    by_cases e : j = i
    · subst e; rw [List.getElem?_set_self (by omega), rdL_get g j h]; simp [h]
    · rw [List.getElem?_set_ne (Ne.symm e)]; exact hq j (by omega)
  · simp (disch := omega) only [laws_toIntSS.l0, if_neg]
    exact ev_now (eq_of_getL ha fun j hj => hq j (by omega))
 termination_by g.length - i
theorem toIntSS_ev (g : List (List Int)) (hg : g.length ≤ 2000000) (hr : ∀ x ∈ g, x.length ≤ 2000000) : Ev (fun k => laws_toIntSS.f k g) g := by
  simp (disch := omega) only [laws_toIntSS.f, if_pos, Int.toNat_natCast]
  exact toIntSS_l0 g _ 0 (by omega) hg hr (by simp) (fun j hj => by omega)

/-! eqIntS -/
theorem eqIntS_l0 (l : List Int) (i : Nat) (hi : i ≤ l.length) (hl : l.length ≤ 2000000) : Ev (fun k => laws_eqIntS.l0 k l l (i : Int)) true := by
  refine ev_succ ?_
  by_cases h : i < l.length
  · simp (disch := omega) only [laws_eqIntS.l0, if_pos, w64]
    exact eqIntS_l0 l (i + 1) (by omega) hl
  · simp (disch := omega) only [laws_eqIntS.l0, if_neg]
    exact ev_now rfl
 termination_by l.length - i
theorem eqIntS_ev (l : List Int) (hl : l.length ≤ 2000000) : Ev (fun k => laws_eqIntS.f k l l) true := by
  simp (disch := omega) only [laws_eqIntS.f, if_pos]
  exact eqIntS_l0 l 0 (by omega) hl

/-! eqIntSS -/
theorem eqIntSS_l0 (g : List (List Int)) (i : Nat) (hi : i ≤ g.length) (hg : g.length ≤ 2000000) (hr : ∀ x ∈ g, x.length ≤ 2000000) : Ev (fun k => laws_eqIntSS.l0 k g g (i : Int)) true := by
  refine ev_succ ?_
  by_cases h : i < g.length
  · simp (disch := omega) only [laws_eqIntSS.l0, if_pos, w64]
    refine ev_bind (eqIntS_ev _ (hr _ (rdL_mem g i h))) (ev_ifp rfl ?_)
    exact eqIntSS_l0 g (i + 1) (by omega) hg hr
  · simp (disch := omega) only [laws_eqIntSS.l0, if_neg]
    exact ev_now rfl
 termination_by g.length - i
theorem eqIntSS_ev (g : List (List Int)) (hg : g.length ≤ 2000000) (hr : ∀ x ∈ g, x.length ≤ 2000000) : Ev (fun k => laws_eqIntSS.f k g g) true := by
  simp (disch := omega) only [laws_eqIntSS.f, if_pos]
  exact eqIntSS_l0 g 0 (by omega) hg hr

/-! markIntS -/
theorem markIntS_l0 (l : List Int) (m : Int) (i : Nat) (acc : List Int) (hm : 0 ≤ m) (hm2 : m ≤ 100000000) (hi : i ≤ l.length) (hl : l.length ≤ 2000000) (ha : acc.length = l.length) (hg : ∀ j, j < i → acc[j]? = (up m l.length)[j]?) :
    Ev (fun k => laws_markIntS.l0 k acc (m + i) (i : Int)) (m + l.length, up m l.length) := by
  refine ev_succ ?_
  by_cases h : i < l.length
  · simp (disch := omega) only [laws_markIntS.l0, if_pos, w64, Int.toNat_natCast]
    rw [show m + (i : Int) + 1 = m + ((i + 1 : Nat) : Int) by omega, show (i : Int) + 1 = ((i + 1 : Nat) : Int) by omega]
    refine markIntS_l0 l m (i + 1) (acc.set i (m + i)) hm hm2 (by omega) hl (by simpa using ha) (fun j hj => ?_)
    rw [set_get _ _ _ _ (by omega)]
    by_cases e : j = i
    · subst e; rw [if_pos rfl, up_get m _ _ h]
    · rw [if_neg e]; exact hg j (by omega)
  · simp (disch := omega) only [laws_markIntS.l0, if_neg]
    obtain rfl : i = l.length := by omega
    exact ev_now (by rw [eq_of_get (m := up m l.length) (by rw [up_length, ha]) (fun j hj => hg j (by omega))])
 termination_by l.length - i
theorem markIntS_ev (l : List Int) (m : Int) (hm : 0 ≤ m) (hm2 : m ≤ 100000000) (hl : l.length ≤ 2000000) : Ev (fun k => laws_markIntS.f k l m) (m + l.length, up m l.length) := by
  have h := markIntS_l0 l m 0 l hm hm2 (by omega) hl rfl (fun j hj => by omega)
  simpa [laws_markIntS.f] using h

/-! markIntSS -/
theorem markIntSS_l0 (n : Nat) (hn : n ≤ 2000000) (d : Nat) : ∀ (g : List (List Int)) (i : Nat) (m : Int), g.length = n → i + d = n → 0 ≤ m → m + tl g i ≤ 2000000 → ∃ m' g', 0 ≤ m' ∧ m' ≤ 2000000 ∧ Ev (fun k => laws_markIntSS.l0 k g m (i : Int)) (m', g') := by
  induction d with
  | zero =>
    intro g i m hl hd h0 h1
    refine ⟨m, g, h0, by omega, ev_succ ?_⟩
    simp (disch := omega) only [laws_markIntSS.l0, if_neg]
    exact ev_now rfl
  | succ d ih =>
    intro g i m hl hd h0 h1
    have hi : i < g.length := by omega
    have hx : g.getD i [] = g[i] := by simp [List.getD_eq_getElem?_getD, hi]
    have ht := tl_succ g i hi
    have hs : tl (g.set i (up m g[i].length)) (i + 1) = tl g (i + 1) := by
      unfold tl; rw [List.drop_set_of_lt (by omega)]
    obtain ⟨m', g', hm, hm2, h⟩ := ih (g.set i (up m g[i].length)) (i + 1) (m + g[i].length) (by simpa using hl) (by omega) (by omega) (by omega)
    refine ⟨m', g', hm, hm2, ev_succ ?_⟩
    simp (disch := omega) only [laws_markIntSS.l0, if_pos, w64, Int.toNat_natCast, hx]
    exact ev_bind (markIntS_ev g[i] m h0 (by omega) (by omega)) h
theorem markIntSS_ev (g : List (List Int)) (hg : g.length ≤ 1048576) (ht : tl g 0 ≤ 1048576) : ∃ m' g', 0 ≤ m' ∧ m' ≤ 2000000 ∧ Ev (fun k => laws_markIntSS.f k g 1) (m', g') := by
  obtain ⟨m', g', h0, h1, h⟩ := markIntSS_l0 g.length (by omega) g.length g 0 1 rfl (by omega) (by omega) (by omega)
  exact ⟨m', g', h0, h1, by simpa [laws_markIntSS.f] using h⟩

/-! heldIntS -/
theorem heldIntS_l0 (n : Nat) (m : Int) (i : Nat) (hm : 0 ≤ m) (hm2 : m ≤ 100000000) (hi : i ≤ n) (hl : n ≤ 2000000) :
    Ev (fun k => laws_heldIntS.l0 k (up m n) (m + i) (i : Int)) (m + n) := by
  refine ev_succ ?_
  by_cases h : i < n
  · simp (disch := omega) only [laws_heldIntS.l0, up_length, if_pos, w64, up_rd m n i h]
    rw [show m + (i : Int) + 1 = m + ((i + 1 : Nat) : Int) by omega, show (i : Int) + 1 = ((i + 1 : Nat) : Int) by omega]
    exact heldIntS_l0 n m (i + 1) hm hm2 (by omega) hl
  · simp (disch := omega) only [laws_heldIntS.l0, up_length, if_neg]
    obtain rfl : i = n := by omega
    exact ev_now rfl
 termination_by n - i
theorem heldIntS_ev (n : Nat) (m : Int) (hm : 0 ≤ m) (hm2 : m ≤ 100000000) (hl : n ≤ 2000000) : Ev (fun k => laws_heldIntS.f k (up m n) m) (m + n) := by
  have h := heldIntS_l0 n m 0 hm hm2 (by omega) hl
  simpa [laws_heldIntS.f] using h

/-! Dist -/
/-- A list of numbers that is a distribution. -/
def Dist (l : List Int) : Prop := (1 ≤ l.length ∧ l.length ≤ 16) ∧ (∀ x ∈ l, 0 ≤ x ∧ x ≤ 1000) ∧ 0 < l.sum
instance (l : List Int) : Decidable (Dist l) := by unfold Dist; infer_instance

/-! Chg -/
def Chg (o u : Int) : Prop := (0 ≤ o ∧ o ≤ 20) ∧ (0 ≤ u ∧ u ≤ 20)
instance (o u : Int) : Decidable (Chg o u) := by unfold Chg; infer_instance

/-! Goods -/
/-- Distributions with one total, at most three. -/
def Goods (g : List (List Int)) : Prop := (1 ≤ g.length ∧ g.length ≤ 3) ∧ ∀ x ∈ g, Dist x ∧ x.sum = (rd_L1 g 0).sum
instance (g : List (List Int)) : Decidable (Goods g) := by unfold Goods; infer_instance
/-- The same from place i on. -/
def GoodsFrom (g : List (List Int)) (i : Nat) : Prop := ∀ x ∈ g.drop i, Dist x ∧ x.sum = (rd_L1 g 0).sum
instance (g : List (List Int)) (i : Nat) : Decidable (GoodsFrom g i) := by unfold GoodsFrom; infer_instance
theorem goodsFrom_succ (g : List (List Int)) (i : Nat) (h : i < g.length) : GoodsFrom g i ↔ (Dist (rd_L1 g (i : Int)) ∧ (rd_L1 g (i : Int)).sum = (rd_L1 g 0).sum) ∧ GoodsFrom g (i + 1) := by
  unfold GoodsFrom; rw [List.drop_eq_getElem_cons h, rdL_get g i h]; simp only [List.mem_cons, forall_eq_or_imp]
theorem goodsFrom_end (g : List (List Int)) (i : Nat) (h : g.length ≤ i) : GoodsFrom g i := by
  unfold GoodsFrom; rw [List.drop_eq_nil_of_le h]; exact fun _ h => by cases h

/-! cum -/
/-- The sum of the weights of all demands up to q. -/
def cum (l : List Int) (q : Int) : Int := (l.take (q + 1).toNat).sum
theorem dist_len {l : List Int} (h : Dist l) : 1 ≤ l.length ∧ l.length ≤ 16 := h.1
theorem dist_small {l : List Int} (h : Dist l) : ∀ x ∈ l, 0 ≤ x ∧ x ≤ 1000000000 := fun x hx => by have := h.2.1 x hx; omega
theorem dist_cum {l : List Int} (h : Dist l) (q : Int) : 0 ≤ cum l q ∧ cum l q ≤ 16000 := by
  have := sum_take_bound l (q + 1).toNat 1000 h.2.1 16 h.1.2 (by omega)
  unfold cum; omega
theorem dist_sum {l : List Int} (h : Dist l) : 0 < l.sum ∧ l.sum ≤ 16000 := by
  have := sum_take_bound l l.length 1000 h.2.1 16 h.1.2 (by omega)
  rw [List.take_of_length_le (Nat.le_refl _)] at this
  have := h.2.2
  omega
theorem cum_all {l : List Int} (q : Int) (h : (l.length : Int) ≤ q + 1) : cum l q = l.sum := by
  unfold cum; rw [List.take_of_length_le (by omega)]

/-! overAcc -/
/-- The over sum of an order q, the short sum, of the first i demands. -/
def overAcc (l : List Int) (q : Int) : Nat → Int
  | 0 => 0
  | i + 1 => overAcc l q i + rd l (i : Int) * mx 0 (q - i)
def shortAcc (l : List Int) (q : Int) : Nat → Int
  | 0 => 0
  | i + 1 => shortAcc l q i + rd l (i : Int) * mx 0 (i - q)
def overR (l : List Int) (q : Int) : Int := overAcc l q l.length
def shortR (l : List Int) (q : Int) : Int := shortAcc l q l.length
theorem mx0_bd (x A : Int) (h : x ≤ A) (hA : 0 ≤ A) : 0 ≤ mx 0 x ∧ mx 0 x ≤ A := by
  unfold mx; split <;> omega
theorem dist_rd {l : List Int} (h : Dist l) (i : Nat) (hi : i < l.length) : 0 ≤ rd l (i : Int) ∧ rd l (i : Int) ≤ 1000 := h.2.1 _ (rd_mem l i hi)
theorem mul_bd0 {x y A B : Int} (hx : 0 ≤ x ∧ x ≤ A) (hy : 0 ≤ y ∧ y ≤ B) : 0 ≤ x * y ∧ x * y ≤ A * B :=
  ⟨Int.mul_nonneg hx.1 hy.1, Int.mul_le_mul hx.2 hy.2 hy.1 (by omega)⟩
theorem over_term {l : List Int} (h : Dist l) (q : Int) (hq : q ≤ 100) (i : Nat) (hi : i < l.length) : 0 ≤ rd l (i : Int) * mx 0 (q - i) ∧ rd l (i : Int) * mx 0 (q - i) ≤ 1000 * 100 :=
  mul_bd0 (dist_rd h i hi) (mx0_bd _ 100 (by omega) (by omega))
theorem short_term {l : List Int} (h : Dist l) (q : Int) (hq : 0 ≤ q) (i : Nat) (hi : i < l.length) : 0 ≤ rd l (i : Int) * mx 0 (i - q) ∧ rd l (i : Int) * mx 0 (i - q) ≤ 1000 * 100 :=
  mul_bd0 (dist_rd h i hi) (mx0_bd _ 100 (by have := h.1; omega) (by omega))
theorem overAcc_bd {l : List Int} (h : Dist l) (q : Int) (hq : q ≤ 100) (i : Nat) (hi : i ≤ l.length) : 0 ≤ overAcc l q i ∧ overAcc l q i ≤ 100000 * i := by
  induction i with
  | zero => simp [overAcc]
  | succ i ih =>
    have a := ih (by omega)
    have b := over_term h q hq i (by omega)
    simp only [overAcc]; omega
theorem shortAcc_bd {l : List Int} (h : Dist l) (q : Int) (hq : 0 ≤ q) (i : Nat) (hi : i ≤ l.length) : 0 ≤ shortAcc l q i ∧ shortAcc l q i ≤ 100000 * i := by
  induction i with
  | zero => simp [shortAcc]
  | succ i ih =>
    have a := ih (by omega)
    have b := short_term h q hq i (by omega)
    simp only [shortAcc]; omega
theorem overR_bd {l : List Int} (h : Dist l) (q : Int) (hq : q ≤ 100) : 0 ≤ overR l q ∧ overR l q ≤ 1600000 := by
  have := overAcc_bd h q hq l.length (Nat.le_refl _)
  have := h.1
  unfold overR; omega
theorem shortR_bd {l : List Int} (h : Dist l) (q : Int) (hq : 0 ≤ q) : 0 ≤ shortR l q ∧ shortR l q ≤ 1600000 := by
  have := shortAcc_bd h q hq l.length (Nat.le_refl _)
  have := h.1
  unfold shortR; omega

/-! costR -/
/-- The cost sum of an order. -/
def costR (l : List Int) (o u q : Int) : Int := o * overR l q + u * shortR l q
theorem cost_parts {l : List Int} {o u : Int} (h : Dist l) (hc : Chg o u) (q : Int) (h0 : 0 ≤ q) (h1 : q ≤ 100) : (0 ≤ o * overR l q ∧ o * overR l q ≤ 20 * 1600000) ∧ (0 ≤ u * shortR l q ∧ u * shortR l q ≤ 20 * 1600000) :=
  ⟨mul_bd0 hc.1 (overR_bd h q h1), mul_bd0 hc.2 (shortR_bd h q h0)⟩

/-! overSum -/
theorem overSum_l0 (l : List Int) (h : Dist l) (q : Int) (h0 : 0 ≤ q) (h1 : q ≤ 100) (d : Nat) : ∀ i : Nat, i + d = l.length → Ev (fun k => impl_overSum.l0 k l q (overAcc l q i) (i : Int)) (overR l q) := by
  have hl := h.1
  induction d with
  | zero =>
    intro i hi
    obtain rfl : i = l.length := by omega
    refine ev_succ ?_
    simp (disch := omega) only [impl_overSum.l0, if_neg]
    exact ev_now rfl
  | succ d ih =>
    intro i hi
    have a := overAcc_bd h q h1 i (by omega)
    have b := over_term h q h1 i (by omega)
    refine ev_succ ?_
    simp only [impl_overSum.l0]
    rw [w64 (x := q - (i : Int)) (by omega) (by omega), w64 (x := rd l (i : Int) * mx 0 (q - i)) (by omega) (by omega), w64 (x := overAcc l q i + rd l (i : Int) * mx 0 (q - i)) (by omega) (by omega), w64 (x := (i : Int) + 1) (by omega) (by omega)]
    exact ev_ifp (by omega) (ev_ifp (by omega) (ih (i + 1) (by omega)))
theorem overSum_ev (l : List Int) (h : Dist l) (q : Int) (h0 : 0 ≤ q) (h1 : q ≤ 100) : Ev (fun k => impl_overSum.f k l q) (overR l q) :=
  overSum_l0 l h q h0 h1 l.length 0 (by omega)

/-! shortSum -/
theorem shortSum_l0 (l : List Int) (h : Dist l) (q : Int) (h0 : 0 ≤ q) (h1 : q ≤ 100) (d : Nat) : ∀ i : Nat, i + d = l.length → Ev (fun k => impl_shortSum.l0 k l q (shortAcc l q i) (i : Int)) (shortR l q) := by
  have hl := h.1
  induction d with
  | zero =>
    intro i hi
    obtain rfl : i = l.length := by omega
    refine ev_succ ?_
    simp (disch := omega) only [impl_shortSum.l0, if_neg]
    exact ev_now rfl
  | succ d ih =>
    intro i hi
    have a := shortAcc_bd h q h0 i (by omega)
    have b := short_term h q h0 i (by omega)
    refine ev_succ ?_
    simp only [impl_shortSum.l0]
    rw [w64 (x := (i : Int) - q) (by omega) (by omega), w64 (x := rd l (i : Int) * mx 0 (i - q)) (by omega) (by omega), w64 (x := shortAcc l q i + rd l (i : Int) * mx 0 (i - q)) (by omega) (by omega), w64 (x := (i : Int) + 1) (by omega) (by omega)]
    exact ev_ifp (by omega) (ev_ifp (by omega) (ih (i + 1) (by omega)))
theorem shortSum_ev (l : List Int) (h : Dist l) (q : Int) (h0 : 0 ≤ q) (h1 : q ≤ 100) : Ev (fun k => impl_shortSum.f k l q) (shortR l q) :=
  shortSum_l0 l h q h0 h1 l.length 0 (by omega)

/-! costSum -/
theorem costSum_ev (l : List Int) (h : Dist l) (o u : Int) (hc : Chg o u) (q : Int) (h0 : 0 ≤ q) (h1 : q ≤ 100) : Ev (fun k => impl_costSum.f k l o u q) (costR l o u q) := by
  have b := cost_parts h hc q h0 h1
  unfold impl_costSum.f
  refine ev_bind (overSum_ev l h q h0 h1) (ev_bind (shortSum_ev l h q h0 h1) (ev_now ?_))
  rw [w64 (x := o * overR l q) (by omega) (by omega), w64 (x := u * shortR l q) (by omega) (by omega), w64 (by omega) (by omega)]; rfl

/-! l1Most -/
theorem l1Most_eq (a b : Int) : spec_l1Most.f a b = some (mx a b) := by
  unfold spec_l1Most.f mx
  split <;> split <;> first | rfl | (congr 1; omega)

/-! l5Over -/
theorem l5Over_l0 (l : List Int) (h : Dist l) (q : Int) (h0 : 0 ≤ q) (h1 : q ≤ 100) (d : Nat) : ∀ i : Nat, i + d = l.length → Ev (fun k => spec_l5Over.l0 k l q (overAcc l q i) (i : Int)) (overR l q) := by
  have hl := h.1
  induction d with
  | zero =>
    intro i hi
    obtain rfl : i = l.length := by omega
    refine ev_succ ?_
    simp (disch := omega) only [spec_l5Over.l0, if_neg]
    exact ev_now rfl
  | succ d ih =>
    intro i hi
    have a := overAcc_bd h q h1 i (by omega)
    have b := over_term h q h1 i (by omega)
    refine ev_succ ?_
    simp only [spec_l5Over.l0, l1Most_eq, Option.bind_some]
    rw [w64 (x := q - (i : Int)) (by omega) (by omega), w64 (x := rd l (i : Int) * mx 0 (q - i)) (by omega) (by omega), w64 (x := overAcc l q i + rd l (i : Int) * mx 0 (q - i)) (by omega) (by omega), w64 (x := (i : Int) + 1) (by omega) (by omega)]
    exact ev_ifp (by omega) (ev_ifp (by omega) (ih (i + 1) (by omega)))
theorem l5Over_ev (l : List Int) (h : Dist l) (q : Int) (h0 : 0 ≤ q) (h1 : q ≤ 100) : Ev (fun k => spec_l5Over.f k l q) (overR l q) :=
  l5Over_l0 l h q h0 h1 l.length 0 (by omega)

/-! l5Short -/
theorem l5Short_l0 (l : List Int) (h : Dist l) (q : Int) (h0 : 0 ≤ q) (h1 : q ≤ 100) (d : Nat) : ∀ i : Nat, i + d = l.length → Ev (fun k => spec_l5Short.l0 k l q (shortAcc l q i) (i : Int)) (shortR l q) := by
  have hl := h.1
  induction d with
  | zero =>
    intro i hi
    obtain rfl : i = l.length := by omega
    refine ev_succ ?_
    simp (disch := omega) only [spec_l5Short.l0, if_neg]
    exact ev_now rfl
  | succ d ih =>
    intro i hi
    have a := shortAcc_bd h q h0 i (by omega)
    have b := short_term h q h0 i (by omega)
    refine ev_succ ?_
    simp only [spec_l5Short.l0, l1Most_eq, Option.bind_some]
    rw [w64 (x := (i : Int) - q) (by omega) (by omega), w64 (x := rd l (i : Int) * mx 0 (i - q)) (by omega) (by omega), w64 (x := shortAcc l q i + rd l (i : Int) * mx 0 (i - q)) (by omega) (by omega), w64 (x := (i : Int) + 1) (by omega) (by omega)]
    exact ev_ifp (by omega) (ev_ifp (by omega) (ih (i + 1) (by omega)))
theorem l5Short_ev (l : List Int) (h : Dist l) (q : Int) (h0 : 0 ≤ q) (h1 : q ≤ 100) : Ev (fun k => spec_l5Short.f k l q) (shortR l q) :=
  l5Short_l0 l h q h0 h1 l.length 0 (by omega)

/-! l5Cost -/
theorem l5Cost_ev (l : List Int) (h : Dist l) (o u : Int) (hc : Chg o u) (q : Int) (h0 : 0 ≤ q) (h1 : q ≤ 100) : Ev (fun k => spec_l5Cost.f k l o u q) (costR l o u q) := by
  have b := cost_parts h hc q h0 h1
  unfold spec_l5Cost.f
  refine ev_bind (l5Over_ev l h q h0 h1) (ev_bind (l5Short_ev l h q h0 h1) (ev_now ?_))
  rw [w64 (x := o * overR l q) (by omega) (by omega), w64 (x := u * shortR l q) (by omega) (by omega), w64 (by omega) (by omega)]; rfl

/-! OkCase -/
/-- A valid case: needs, setups, units, holds. -/
def OkCase (n s u h : List Int) : Prop := (n.length ≤ 8 ∧ s.length = n.length ∧ u.length = n.length ∧ h.length = n.length) ∧ (∀ x ∈ n, 0 ≤ x ∧ x ≤ 20) ∧ (∀ x ∈ s, 0 ≤ x ∧ x ≤ 99) ∧ (∀ x ∈ u, 0 ≤ x ∧ x ≤ 9) ∧ (∀ x ∈ h, 0 ≤ x ∧ x ≤ 9)
instance (n s u h : List Int) : Decidable (OkCase n s u h) := by unfold OkCase; infer_instance

/-! limits -/
/-- Whole numbers, as many as the case has periods, of 0 .. m. -/
def Fits (n l : List Int) (m : Int) : Prop := (∀ x ∈ l, 0 ≤ x ∧ x ≤ m) ∧ (l.length : Int) = n.length
instance (n l : List Int) (m : Int) : Decidable (Fits n l m) := by unfold Fits; infer_instance

/-! budP -/
/-- The search, in plain words: b is the best list so far and its cost. -/
def budL (f : Nat → List Int × Int → List Int × Int) : Nat → Nat → List Int × Int → List Int × Int
  | 0, _, b => b
  | n + 1, q, b => budL f n (q + 1) (f q b)
def bud (g : List (List Int)) (o u : Int) (p : List Int) : Nat → List Int → Int → Int → List Int × Int → List Int × Int
  | 0, s, _, cost, b => if cost < b.2 then (s, cost) else b
  | d + 1, s, left, cost, b => budL (fun q b => if (q : Int) * rd p (s.length : Int) ≤ left then bud g o u p d (s ++ [(q : Int)]) (left - (q : Int) * rd p (s.length : Int)) (cost + costR (rd_L1 g (s.length : Int)) o u (q : Int)) b else b) 16 0 b
theorem budL_id (f : Nat → List Int × Int → List Int × Int) (n : Nat) : ∀ (q : Nat) (b : List Int × Int), (∀ i, q ≤ i → ∀ x, f i x = x) → budL f n q b = b := by
  induction n with
  | zero => intro q b _; rfl
  | succ n ih =>
    intro q b h
    show budL f n (q + 1) (f q b) = b
    rw [h q (Nat.le_refl _)]
    exact ih (q + 1) b (fun i hi x => h i (by omega) x)
theorem cost_bd {g : List (List Int)} {o u : Int} (hG : Goods g) (hc : Chg o u) (i : Nat) (hi : i < g.length) (q : Int) (h0 : 0 ≤ q) (h1 : q ≤ 15) : 0 ≤ costR (rd_L1 g (i : Int)) o u q ∧ costR (rd_L1 g (i : Int)) o u q ≤ 64000000 := by
  have a := cost_parts (hG.2 _ (rdL_mem g i hi)).1 hc q (by omega) (by omega)
  unfold costR; omega
/-- Prices: as many as there are goods, each of 0 .. 20. -/
def Fits0 (p : List Int) (g : List (List Int)) : Prop := (∀ x ∈ p, 0 ≤ x ∧ x ≤ 20) ∧ p.length = g.length
instance (p : List Int) (g : List (List Int)) : Decidable (Fits0 p g) := by unfold Fits0; infer_instance
/-- What holds of the best so far. -/
def BOk (b : List Int × Int) : Prop := (0 ≤ b.2 ∧ b.2 < 1099511627776 ∧ b.1.length ≤ 3) ∨ b = ([], 1099511627776)
theorem mul_bd {q x : Int} (h0 : 0 ≤ q) (h1 : q ≤ 15) (x0 : 0 ≤ x) (x1 : x ≤ 20) : 0 ≤ q * x ∧ q * x ≤ 300 := ⟨Int.mul_nonneg h0 x0, by have := Int.mul_le_mul h1 x1 x0 (show (0 : Int) ≤ 15 by omega); omega⟩

/-! budI -/
theorem bud_c {g : List (List Int)} {o u : Int} {p : List Int} (hG : Goods g) (hc : Chg o u) (hp : Fits0 p g) (d : Nat) : ∀ (s : List Int) (left cost : Int) (b : List Int × Int), s.length + d = g.length → 0 ≤ left → left ≤ 60 → 0 ≤ cost → cost + 64000000 * d ≤ 1000000000 → BOk b →
    Ev (fun k => impl_BudgetOrders.c k g o u p s left cost b.1 b.2) (bud g o u p d s left cost b) ∧ BOk (bud g o u p d s left cost b) := by
  have hg := hG.1
  have pl := hp.2
  induction d with
  | zero =>
    intro s left cost b hs l0 l1 c0 c1 hb
    have e : bud g o u p 0 s left cost b = if cost < b.2 then (s, cost) else b := rfl
    rw [e]
    refine ⟨ev_succ ?_, ?_⟩
    · simp only [impl_BudgetOrders.c]
      refine ev_ifp (by omega) ?_
      by_cases z : cost < b.2
      · simp only [if_pos z]; exact ev_now rfl
      · simp only [if_neg z]; exact ev_now rfl
    · split
      · exact .inl ⟨c0, by show cost < _; omega, by show s.length ≤ 3; omega⟩
      · exact hb
  | succ d ih =>
    intro s left cost b hs l0 l1 c0 c1 hb
    have pr := hp.1 _ (rd_mem p s.length (by have := hp.2; omega))
    have key : ∀ (n q : Nat), n + q = 16 → ∀ b, BOk b → Ev (fun k => impl_BudgetOrders.q k g o u p s left cost b.1 b.2 (q : Int)) (budL (fun q b => if (q : Int) * rd p (s.length : Int) ≤ left then bud g o u p d (s ++ [(q : Int)]) (left - (q : Int) * rd p (s.length : Int)) (cost + costR (rd_L1 g (s.length : Int)) o u (q : Int)) b else b) n q b) ∧ BOk (budL (fun q b => if (q : Int) * rd p (s.length : Int) ≤ left then bud g o u p d (s ++ [(q : Int)]) (left - (q : Int) * rd p (s.length : Int)) (cost + costR (rd_L1 g (s.length : Int)) o u (q : Int)) b else b) n q b) := by
      intro n
      induction n with
      | zero =>
        intro q hq b hb
        refine ⟨ev_succ ?_, hb⟩
        simp only [impl_BudgetOrders.q]
        exact ev_ifn (by omega) (ev_now rfl)
      | succ n ihn =>
        intro q hq b hb
        have mb := mul_bd (q := (q : Int)) (by omega) (by omega) pr.1 pr.2
        have cb := cost_bd hG hc s.length (by omega) (q : Int) (by omega) (by omega)
        have nx : ∀ b', BOk b' → Ev (fun k => impl_BudgetOrders.q k g o u p s left cost b'.1 b'.2 (wrap64 ((q : Int) + 1))) _ ∧ BOk _ := fun b' hb' => by
          rw [w64 (x := (q : Int) + 1) (by omega) (by omega), show (q : Int) + 1 = ((q + 1 : Nat) : Int) by omega]
          exact ihn (q + 1) (by omega) b' hb'
        simp only [budL]
        by_cases z : (q : Int) * rd p (s.length : Int) ≤ left
        · rw [if_pos z]
          have hq := ih (s ++ [(q : Int)]) (left - (q : Int) * rd p (s.length : Int)) (cost + costR (rd_L1 g (s.length : Int)) o u (q : Int)) b (by simp; omega) (by omega) (by omega) (by omega) (by omega) hb
          refine ⟨ev_succ ?_, (nx _ hq.2).2⟩
          simp only [impl_BudgetOrders.q]
          rw [w64 (x := (q : Int) * rd p (s.length : Int)) (by omega) (by omega), w64 (x := left - (q : Int) * rd p (s.length : Int)) (by omega) (by omega)]
          refine ev_ifp (by omega) (ev_ifp (by omega) (ev_ifp z (ev_ifp (by omega) (ev_bind (costSum_ev _ (hG.2 _ (rdL_mem g s.length (by omega))).1 o u hc (q : Int) (by omega) (by omega)) ?_))))
          rw [w64 (x := cost + costR (rd_L1 g (s.length : Int)) o u (q : Int)) (by omega) (by omega)]
          exact ev_bind hq.1 (nx _ hq.2).1
        · rw [if_neg z]
          refine ⟨ev_succ ?_, (nx _ hb).2⟩
          simp only [impl_BudgetOrders.q]
          rw [w64 (x := (q : Int) * rd p (s.length : Int)) (by omega) (by omega)]
          exact ev_ifp (by omega) (ev_ifp (by omega) (ev_ifn z (nx _ hb).1))
    refine ⟨ev_succ ?_, (key 16 0 (by omega) b hb).2⟩
    simp only [impl_BudgetOrders.c]
    exact ev_ifn (by omega) (key 16 0 (by omega) b hb).1

/-! budS -/
/-- The reference's word for the best so far: found or not. -/
def budS (b : List Int × Int) : List Int × Int × Bool := if b.2 < 1099511627776 then (b.1, b.2, true) else ([], 0, false)
theorem l1Own_eq (s : List Int) (h : s.length ≤ 1000) : spec_l1Own.f s = some s := by
  unfold spec_l1Own.f
  simp only [Option.bind_some, List.nil_append, List.length_nil]
  rw [if_pos (by omega)]
theorem bud_f {g : List (List Int)} {o u : Int} {p : List Int} (hG : Goods g) (hc : Chg o u) (hp : Fits0 p g) (d : Nat) : ∀ (s : List Int) (left cost : Int) (b : List Int × Int), s.length + d = g.length → 0 ≤ left → left ≤ 60 → 0 ≤ cost → cost + 64000000 * d ≤ 1000000000 → BOk b →
    Ev (fun k => spec_l5Try.f k g o u p left s cost (budS b).1 (budS b).2.1 (budS b).2.2) (budS (bud g o u p d s left cost b)) := by
  have hg := hG.1
  have pl := hp.2
  induction d with
  | zero =>
    intro s left cost b hs l0 l1 c0 c1 hb
    have e : bud g o u p 0 s left cost b = if cost < b.2 then (s, cost) else b := rfl
    have es : budS (s, cost) = (s, cost, true) := if_pos (show cost < 1099511627776 by omega)
    rw [e]
    refine ev_succ ?_
    simp only [spec_l5Try.f]
    refine ev_ifp (by omega) ?_
    rcases hb with hb | rfl
    · have eb : budS b = (b.1, b.2, true) := if_pos hb.2.1
      rw [eb]
      refine ev_ifp rfl ?_
      by_cases z : cost < b.2
      · simp only [if_pos z]; rw [es]; exact ev_now rfl
      · simp only [if_neg z]; rw [eb]; exact ev_now rfl
    · rw [if_pos (show cost < (([], 1099511627776) : List Int × Int).2 by show cost < 1099511627776; omega), es]
      exact ev_ifn (by simp [budS]) (ev_now rfl)
  | succ d ih =>
    intro s left cost b hs l0 l1 c0 c1 hb
    have pr := hp.1 _ (rd_mem p s.length (by have := hp.2; omega))
    have key : ∀ (n q : Nat), n + q = 16 → ∀ b, BOk b → Ev (fun k => spec_l5Try.l k g o u p left s cost (budS b).1 (budS b).2.1 (budS b).2.2 (q : Int)) (budS (budL (fun q b => if (q : Int) * rd p (s.length : Int) ≤ left then bud g o u p d (s ++ [(q : Int)]) (left - (q : Int) * rd p (s.length : Int)) (cost + costR (rd_L1 g (s.length : Int)) o u (q : Int)) b else b) n q b)) := by
      intro n
      induction n with
      | zero =>
        intro q hq b hb
        refine ev_succ ?_
        simp only [spec_l5Try.l]
        exact ev_ifn (by omega) (ev_now rfl)
      | succ n ihn =>
        intro q hq b hb
        have mb := mul_bd (q := (q : Int)) (by omega) (by omega) pr.1 pr.2
        have cb := cost_bd hG hc s.length (by omega) (q : Int) (by omega) (by omega)
        refine ev_succ ?_
        simp only [spec_l5Try.l]
        rw [w64 (x := (q : Int) * rd p (s.length : Int)) (by omega) (by omega)]
        refine ev_ifp (by omega) (ev_ifp (by have := hp.2; omega) ?_)
        by_cases z : (q : Int) * rd p (s.length : Int) ≤ left
        · have hc' := (bud_c hG hc hp d (s ++ [(q : Int)]) (left - (q : Int) * rd p (s.length : Int)) (cost + costR (rd_L1 g (s.length : Int)) o u (q : Int)) b (by simp; omega) (by omega) (by omega) (by omega) (by omega) hb).2
          have hq := ih (s ++ [(q : Int)]) (left - (q : Int) * rd p (s.length : Int)) (cost + costR (rd_L1 g (s.length : Int)) o u (q : Int)) b (by simp; omega) (by omega) (by omega) (by omega) (by omega) hb
          simp only [budL]
          rw [if_pos z]
          refine ev_ifp z (ev_ifp (by omega) ?_)
          simp only [l1Own_eq s (by omega), Option.bind_some]
          rw [w64 (x := left - (q : Int) * rd p (s.length : Int)) (by omega) (by omega)]
          refine ev_ifp (by omega) (ev_bind (l5Cost_ev _ (hG.2 _ (rdL_mem g s.length (by omega))).1 o u hc (q : Int) (by omega) (by omega)) ?_)
          rw [w64 (x := cost + costR (rd_L1 g (s.length : Int)) o u (q : Int)) (by omega) (by omega)]
          refine ev_bind hq ?_
          rw [w64 (x := (q : Int) + 1) (by omega) (by omega), show (q : Int) + 1 = ((q + 1 : Nat) : Int) by omega]
          exact ihn (q + 1) (by omega) _ hc'
        · refine ev_ifn z (ev_now ?_)
          rw [budL_id]
          intro i hi x
          have : (q : Int) * rd p (s.length : Int) ≤ (i : Int) * rd p (s.length : Int) := Int.mul_le_mul_of_nonneg_right (by omega) pr.1
          rw [if_neg (by omega)]
    refine ev_succ ?_
    simp only [spec_l5Try.f]
    exact ev_ifn (by omega) (key 16 0 (by omega) b hb)

/-! budR -/
def BudgetOrdersR (g : List (List Int)) (o u : Int) (p : List Int) (m : Int) : List Int × Bool := if (Goods g ∧ Chg o u) ∧ Fits0 p g ∧ 0 ≤ m ∧ m ≤ 60 then ((bud g o u p g.length [] m 0 ([], 1099511627776)).1, true) else ([], false)
theorem BOk0 : BOk ([], 1099511627776) := .inr rfl
theorem bud_cost {g : List (List Int)} (hG : Goods g) : (0 : Int) + 64000000 * (g.length : Nat) ≤ 1000000000 := by have := hG.1; omega

/-! within -/
theorem within_eq (a b c : Int) : impl_within.f a b c = some (decide (b ≤ a ∧ a ≤ c)) := by
  unfold impl_within.f
  by_cases h : a ≥ b
  · rw [if_pos h]; congr 1; rw [decide_eq_decide]; omega
  · rw [if_neg h]; congr 1; symm; rw [decide_eq_false_iff_not]; omega

/-! allWithin -/
theorem allWithin_l0 (l : List Int) (lo hi : Int) (i : Nat) (h1 : i ≤ l.length) (hl : l.length ≤ 2000000) :
    Ev (fun k => impl_allWithin.l0 k lo hi l (l.length : Int) (i : Int)) (decide (∀ x ∈ l.drop i, lo ≤ x ∧ x ≤ hi)) := by
  refine ev_succ ?_
  by_cases h : i < l.length
  · simp (disch := omega) only [impl_allWithin.l0, if_pos, within_eq, Option.bind_some, w64]
    rw [drop_rd l i h]
    by_cases c : lo ≤ rd l i ∧ rd l i ≤ hi
    · refine ev_ifp (by simpa using c) ?_
      refine ev_to (allWithin_l0 l lo hi (i + 1) (by omega) hl) ?_
      rw [decide_eq_decide]; simp [c]
    · refine ev_ifn (by simpa using c) (ev_now ?_)
      symm; rw [decide_eq_false_iff_not]; simp [c]
  · simp (disch := omega) only [impl_allWithin.l0, if_neg]
    exact ev_now (by simp [List.drop_eq_nil_of_le (show l.length ≤ i by omega)])
 termination_by l.length - i
theorem allWithin_ev (l : List Int) (lo hi : Int) (hl : l.length ≤ 2000000) : Ev (fun k => impl_allWithin.f k l lo hi) (decide (∀ x ∈ l, lo ≤ x ∧ x ≤ hi)) := by
  have h := allWithin_l0 l lo hi 0 (by omega) hl
  simpa [impl_allWithin.f] using h

/-! total -/
theorem total_l0 (l : List Int) (i : Nat) (h1 : i ≤ l.length) (hl : l.length ≤ 2000) (hb : ∀ x ∈ l, 0 ≤ x ∧ x ≤ 1000000000) :
    Ev (fun k => impl_total.l0 k (l.take i).sum l (l.length : Int) (i : Int)) l.sum := by
  refine ev_succ ?_
  by_cases h : i < l.length
  · have a := sum_take_bound l i 1000000000 hb 2000 hl (by omega)
    have b := sum_take_bound l (i + 1) 1000000000 hb 2000 hl (by omega)
    rw [sum_take_succ l i h] at b
    simp (disch := omega) only [impl_total.l0, if_pos, w64]
    rw [← sum_take_succ l i h]
    exact total_l0 l (i + 1) (by omega) hl hb
  · simp (disch := omega) only [impl_total.l0, if_neg]
    exact ev_now (by rw [List.take_of_length_le (by omega)])
 termination_by l.length - i
theorem total_ev (l : List Int) (hl : l.length ≤ 2000) (hb : ∀ x ∈ l, 0 ≤ x ∧ x ≤ 1000000000) : Ev (fun k => impl_total.f k l) l.sum := by
  have h := total_l0 l 0 (by omega) hl hb
  simpa [impl_total.f] using h

/-! IsDistribution -/
theorem IsDistribution_ev (l : List Int) (hl : l.length ≤ 2000000) : Ev (fun k => impl_IsDistribution.f k l) (decide (Dist l)) := by
  unfold impl_IsDistribution.f
  simp only [within_eq, Option.bind_some]
  by_cases h1 : (1 : Int) ≤ l.length ∧ (l.length : Int) ≤ 16
  · refine ev_ifp (by simpa using h1) (ev_bind (allWithin_ev l 0 1000 hl) ?_)
    by_cases h2 : ∀ x ∈ l, 0 ≤ x ∧ x ≤ 1000
    · refine ev_ifp (by simpa using h2) (ev_bind (total_ev l (by omega) (fun x hx => by have := h2 x hx; omega)) (ev_now ?_))
      rw [decide_eq_decide]; unfold Dist
      exact ⟨fun h => ⟨by omega, h2, by omega⟩, fun h => by omega⟩
    · refine ev_ifn (by simpa using h2) (ev_now ?_)
      symm; rw [decide_eq_false_iff_not]; unfold Dist
      exact fun h => h2 h.2.1
  · refine ev_ifn (by simpa using h1) (ev_now ?_)
    symm; rw [decide_eq_false_iff_not]; unfold Dist
    exact fun h => h1 (by omega)

/-! areCharges -/
theorem areCharges_ev (l : List Int) (hl : l.length ≤ 2000000) : Ev (fun k => impl_areCharges.f k l) (decide (∀ x ∈ l, 0 ≤ x ∧ x ≤ 20)) := by
  unfold impl_areCharges.f
  exact ev_bind (allWithin_ev l 0 20 hl) (ev_now rfl)
theorem areCharges2_ev (o u : Int) : Ev (fun k => impl_areCharges.f k [o, u]) (decide (Chg o u)) := by
  refine ev_to (areCharges_ev [o, u] (by simp)) ?_
  rw [decide_eq_decide]; simp [Chg]

/-! areGoods -/
theorem areGoods_l0 (g : List (List Int)) (o u : Int) (hg : g.length ≤ 2000000) (hr : ∀ x ∈ g, x.length ≤ 2000000) (d : Nat) : ∀ i : Nat, i + d = g.length → (0 < i → Dist (rd_L1 g 0)) → Ev (fun k => impl_areGoods.l0 k g o u g (g.length : Int) (i : Int)) (decide (GoodsFrom g i ∧ (1 ≤ g.length ∧ g.length ≤ 3) ∧ Chg o u)) := by
  induction d with
  | zero =>
    intro i hd h0
    refine ev_succ ?_
    simp (disch := omega) only [impl_areGoods.l0, if_neg, within_eq, Option.bind_some]
    have he := goodsFrom_end g i (by omega)
    by_cases c : 1 ≤ g.length ∧ g.length ≤ 3
    · refine ev_ifp (by rw [decide_eq_true_iff]; omega) (ev_bind (areCharges2_ev o u) (ev_now ?_))
      rw [decide_eq_decide]; exact ⟨fun z => ⟨he, c, z⟩, fun z => z.2.2⟩
    · refine ev_ifn (by rw [decide_eq_true_iff]; omega) (ev_now ?_)
      symm; rw [decide_eq_false_iff_not]; exact fun z => c z.2.1
  | succ d ih =>
    intro i hd h0
    have hi : i < g.length := by omega
    have hm := rdL_mem g i hi
    refine ev_succ ?_
    simp (disch := omega) only [impl_areGoods.l0, if_pos, w64]
    refine ev_bind (IsDistribution_ev _ (hr _ hm)) ?_
    by_cases c : Dist (rd_L1 g (i : Int))
    · have c0 : Dist (rd_L1 g 0) := by
        by_cases z : 0 < i
        · exact h0 z
        · obtain rfl : i = 0 := by omega
          exact c
      refine ev_ifp (by simpa using c) (ev_bind (total_ev _ (by have := c.1; omega) (fun x hx => by have := c.2.1 x hx; omega)) (ev_bind (total_ev _ (by have := c0.1; omega) (fun x hx => by have := c0.2.1 x hx; omega)) ?_))
      by_cases e : (rd_L1 g (i : Int)).sum = (rd_L1 g 0).sum
      · refine ev_ifp e (ev_to (ih (i + 1) (by omega) (fun _ => c0)) ?_)
        rw [decide_eq_decide, goodsFrom_succ g i hi]
        exact ⟨fun z => ⟨⟨⟨c, e⟩, z.1⟩, z.2⟩, fun z => ⟨z.1.2, z.2⟩⟩
      · refine ev_ifn e (ev_now ?_)
        symm; rw [decide_eq_false_iff_not, goodsFrom_succ g i hi]; exact fun z => e z.1.1.2
    · refine ev_ifn (by simpa using c) (ev_now ?_)
      symm; rw [decide_eq_false_iff_not, goodsFrom_succ g i hi]; exact fun z => c z.1.1.1
theorem areGoods_ev (g : List (List Int)) (o u : Int) (hg : g.length ≤ 2000000) (hr : ∀ x ∈ g, x.length ≤ 2000000) : Ev (fun k => impl_areGoods.f k g o u) (decide (Goods g ∧ Chg o u)) := by
  refine ev_to (areGoods_l0 g o u hg hr g.length 0 (by omega) (fun z => by omega)) ?_
  rw [decide_eq_decide]; unfold Goods GoodsFrom; rw [List.drop_zero]
  exact ⟨fun z => ⟨⟨z.2.1, z.1⟩, z.2.2⟩, fun z => ⟨z.1.2, z.1.1, z.2⟩⟩

/-! BudgetOrders -/
theorem BudgetOrders_ev (g : List (List Int)) (o u : Int) (p : List Int) (m : Int) (hg : g.length ≤ 2000000) (hr : ∀ x ∈ g, x.length ≤ 2000000) (hl : p.length ≤ 2000000) : Ev (fun k => impl_BudgetOrders.f k g o u p m) (BudgetOrdersR g o u p m) := by
  unfold impl_BudgetOrders.f BudgetOrdersR
  refine ev_bind (areGoods_ev g o u hg hr) ?_
  by_cases c : Goods g ∧ Chg o u
  · refine ev_ifp (by rw [decide_eq_true_iff]; exact c) ?_
    by_cases l : (p.length : Int) = (g.length : Int)
    · refine ev_ifp l (ev_bind (areCharges_ev p hl) ?_)
      by_cases x : ∀ y ∈ p, 0 ≤ y ∧ y ≤ 20
      · refine ev_ifp (by rw [decide_eq_true_iff]; exact x) ?_
        simp only [within_eq, Option.bind_some]
        by_cases z : 0 ≤ m ∧ m ≤ 60
        · rw [if_pos ⟨c, ⟨x, by omega⟩, z⟩]
          have h := bud_c c.1 c.2 (show Fits0 p g from ⟨x, by omega⟩) g.length [] m 0 ([], 1099511627776) (by simp) z.1 z.2 (by omega) (bud_cost c.1) BOk0
          exact ev_ifp (by rw [decide_eq_true_iff]; exact z) (ev_bind h.1 (ev_now rfl))
        · rw [if_neg (fun y => z y.2.2)]; exact ev_ifn (by rw [decide_eq_true_iff]; exact z) (ev_now rfl)
      · rw [if_neg (fun y => x y.2.1.1)]; exact ev_ifn (by rw [decide_eq_true_iff]; exact x) (ev_now rfl)
    · rw [if_neg (fun y => l (by have := y.2.1.2; omega))]; exact ev_ifn l (ev_now rfl)
  · rw [if_neg (fun y => c y.1)]; exact ev_ifn (by rw [decide_eq_true_iff]; exact c) (ev_now rfl)

/-! l1In -/
theorem l1In_eq (a b c : Int) : spec_l1In.f a b c = some (decide (b ≤ a ∧ a ≤ c)) := by
  unfold spec_l1In.f
  by_cases h : a ≥ b
  · rw [if_pos h]; congr 1; rw [decide_eq_decide]; omega
  · rw [if_neg h]; congr 1; symm; rw [decide_eq_false_iff_not]; omega

/-! l2Row -/
theorem l2Row_l0 (l : List Int) (n hi : Int) (i : Nat) (h1 : i ≤ l.length) (hl : l.length ≤ 2000000) :
    Ev (fun k => spec_l2Row.l0 k l n hi (i : Int)) (decide ((∀ x ∈ l.drop i, 0 ≤ x ∧ x ≤ hi) ∧ (l.length : Int) = n)) := by
  refine ev_succ ?_
  by_cases h : i < l.length
  · simp (disch := omega) only [spec_l2Row.l0, if_pos, l1In_eq, Option.bind_some, w64]
    rw [drop_rd l i h]
    by_cases c : 0 ≤ rd l i ∧ rd l i ≤ hi
    · refine ev_ifp (by simpa using c) ?_
      refine ev_to (l2Row_l0 l n hi (i + 1) (by omega) hl) ?_
      rw [decide_eq_decide]; simp [c]
    · refine ev_ifn (by simpa using c) (ev_now ?_)
      symm; rw [decide_eq_false_iff_not]; simp [c]
  · simp (disch := omega) only [spec_l2Row.l0, if_neg]
    exact ev_now (by
      rw [List.drop_eq_nil_of_le (show l.length ≤ i by omega)]
      rw [Bool.eq_iff_iff]; simp)
 termination_by l.length - i
theorem l2Row_ev (l : List Int) (n hi : Int) (hl : l.length ≤ 2000000) : Ev (fun k => spec_l2Row.f k l n hi) (decide ((∀ x ∈ l, 0 ≤ x ∧ x ≤ hi) ∧ (l.length : Int) = n)) := by
  have h := l2Row_l0 l n hi 0 (by omega) hl
  simpa [spec_l2Row.f] using h

/-! l2Sum -/
theorem l2Sum_l0 (l : List Int) (i : Nat) (h1 : i ≤ l.length) (hl : l.length ≤ 2000) (hb : ∀ x ∈ l, 0 ≤ x ∧ x ≤ 1000000000) :
    Ev (fun k => spec_l2Sum.l0 k l (l.take i).sum (i : Int)) l.sum := by
  refine ev_succ ?_
  by_cases h : i < l.length
  · have a := sum_take_bound l i 1000000000 hb 2000 hl (by omega)
    have b := sum_take_bound l (i + 1) 1000000000 hb 2000 hl (by omega)
    rw [sum_take_succ l i h] at b
    simp (disch := omega) only [spec_l2Sum.l0, if_pos, w64]
    rw [← sum_take_succ l i h]
    exact l2Sum_l0 l (i + 1) (by omega) hl hb
  · simp (disch := omega) only [spec_l2Sum.l0, if_neg]
    exact ev_now (by rw [List.take_of_length_le (by omega)])
 termination_by l.length - i
theorem l2Sum_ev (l : List Int) (hl : l.length ≤ 2000) (hb : ∀ x ∈ l, 0 ≤ x ∧ x ≤ 1000000000) : Ev (fun k => spec_l2Sum.f k l) l.sum := by
  have h := l2Sum_l0 l 0 (by omega) hl hb
  simpa [spec_l2Sum.f] using h

/-! l5Total -/
theorem l5Total_ev (l : List Int) (hl : l.length ≤ 2000) (hb : ∀ x ∈ l, 0 ≤ x ∧ x ≤ 1000000000) : Ev (fun k => spec_l5Total.f k l) l.sum := by
  unfold spec_l5Total.f
  exact ev_bind (l2Sum_ev l hl hb) (ev_now rfl)

/-! l5Good -/
theorem l5Good_ev (l : List Int) (hl : l.length ≤ 2000000) : Ev (fun k => spec_l5Good.f k l) (decide (Dist l)) := by
  unfold spec_l5Good.f
  simp only [l1In_eq, Option.bind_some]
  by_cases h1 : (1 : Int) ≤ l.length ∧ (l.length : Int) ≤ 16
  · refine ev_ifp (by simpa using h1) (ev_bind (l2Row_ev l _ 1000 hl) ?_)
    by_cases h2 : ∀ x ∈ l, 0 ≤ x ∧ x ≤ 1000
    · refine ev_ifp (by simpa using h2) (ev_bind (l5Total_ev l (by omega) (fun x hx => by have := h2 x hx; omega)) (ev_now ?_))
      rw [decide_eq_decide]; unfold Dist
      exact ⟨fun h => ⟨by omega, h2, by omega⟩, fun h => by omega⟩
    · refine ev_ifn (by simpa using h2) (ev_now ?_)
      symm; rw [decide_eq_false_iff_not]; unfold Dist
      exact fun h => h2 h.2.1
  · refine ev_ifn (by simpa using h1) (ev_now ?_)
    symm; rw [decide_eq_false_iff_not]; unfold Dist
    exact fun h => h1 (by omega)

/-! l5Goods -/
theorem l5Goods_l0 (g : List (List Int)) (hg : g.length ≤ 2000000) (hr : ∀ x ∈ g, x.length ≤ 2000000) (d : Nat) : ∀ i : Nat, i + d = g.length → (0 < i → Dist (rd_L1 g 0)) → Ev (fun k => spec_l5Goods.l0 k g (i : Int)) (decide (GoodsFrom g i ∧ (1 ≤ g.length ∧ g.length ≤ 3))) := by
  induction d with
  | zero =>
    intro i hd h0
    refine ev_succ ?_
    simp (disch := omega) only [spec_l5Goods.l0, if_neg, l1In_eq, Option.bind_some]
    refine ev_now ?_
    have he := goodsFrom_end g i (by omega)
    rw [decide_eq_decide]; exact ⟨fun z => ⟨he, by omega⟩, fun z => by have := z.2; omega⟩
  | succ d ih =>
    intro i hd h0
    have hi : i < g.length := by omega
    have hm := rdL_mem g i hi
    refine ev_succ ?_
    simp (disch := omega) only [spec_l5Goods.l0, if_pos, w64]
    refine ev_bind (l5Good_ev _ (hr _ hm)) ?_
    by_cases c : Dist (rd_L1 g (i : Int))
    · have c0 : Dist (rd_L1 g 0) := by
        by_cases z : 0 < i
        · exact h0 z
        · obtain rfl : i = 0 := by omega
          exact c
      refine ev_ifp (by simpa using c) (ev_bind (l5Total_ev _ (by have := c.1; omega) (fun x hx => by have := c.2.1 x hx; omega)) (ev_bind (l5Total_ev _ (by have := c0.1; omega) (fun x hx => by have := c0.2.1 x hx; omega)) ?_))
      by_cases e : (rd_L1 g (i : Int)).sum = (rd_L1 g 0).sum
      · refine ev_ifp e (ev_to (ih (i + 1) (by omega) (fun _ => c0)) ?_)
        rw [decide_eq_decide, goodsFrom_succ g i hi]
        exact ⟨fun z => ⟨⟨⟨c, e⟩, z.1⟩, z.2⟩, fun z => ⟨z.1.2, z.2⟩⟩
      · refine ev_ifn e (ev_now ?_)
        symm; rw [decide_eq_false_iff_not, goodsFrom_succ g i hi]; exact fun z => e z.1.1.2
    · refine ev_ifn (by simpa using c) (ev_now ?_)
      symm; rw [decide_eq_false_iff_not, goodsFrom_succ g i hi]; exact fun z => c z.1.1.1
theorem l5Goods_ev (g : List (List Int)) (hg : g.length ≤ 2000000) (hr : ∀ x ∈ g, x.length ≤ 2000000) : Ev (fun k => spec_l5Goods.f k g) (decide (Goods g)) := by
  refine ev_to (l5Goods_l0 g hg hr g.length 0 (by omega) (fun z => by omega)) ?_
  rw [decide_eq_decide]; unfold Goods GoodsFrom; rw [List.drop_zero]
  exact ⟨fun z => ⟨z.2, z.1⟩, fun z => ⟨z.2, z.1⟩⟩

/-! l5Charges -/
theorem l5Charges_eq (o u : Int) : spec_l5Charges.f o u = some (decide (Chg o u)) := by
  unfold spec_l5Charges.f
  simp only [l1In_eq, Option.bind_some]
  by_cases h : 0 ≤ o ∧ o ≤ 20
  · rw [if_pos (by simpa using h)]; congr 1; rw [decide_eq_decide]; simp [Chg, h]
  · rw [if_neg (by simpa using h)]; congr 1; symm; rw [decide_eq_false_iff_not]; exact fun z => h z.1

/-! spec_BudgetOrders -/
theorem spec_BudgetOrders_ev (g : List (List Int)) (o u : Int) (p : List Int) (m : Int) (hg : g.length ≤ 2000000) (hr : ∀ x ∈ g, x.length ≤ 2000000) (hl : p.length ≤ 2000000) : Ev (fun k => spec_BudgetOrders.f k g o u p m) (BudgetOrdersR g o u p m) := by
  unfold spec_BudgetOrders.f BudgetOrdersR
  refine ev_bind (l5Goods_ev g hg hr) ?_
  by_cases c : Goods g
  · refine ev_ifp (by rw [decide_eq_true_iff]; exact c) ?_
    simp only [l5Charges_eq, Option.bind_some]
    by_cases h : Chg o u
    · refine ev_ifp (by rw [decide_eq_true_iff]; exact h) (ev_bind (l2Row_ev p _ 20 hl) ?_)
      by_cases x : (∀ y ∈ p, 0 ≤ y ∧ y ≤ 20) ∧ (p.length : Int) = g.length
      · refine ev_ifp (by rw [decide_eq_true_iff]; exact x) ?_
        simp only [l1In_eq, Option.bind_some]
        by_cases z : 0 ≤ m ∧ m ≤ 60
        · rw [if_pos ⟨⟨c, h⟩, ⟨x.1, by have := x.2; omega⟩, z⟩]
          have e := bud_f c h (show Fits0 p g from ⟨x.1, by have := x.2; omega⟩) g.length [] m 0 ([], 1099511627776) (by simp) z.1 z.2 (by omega) (bud_cost c) BOk0
          have k := (bud_c c h (show Fits0 p g from ⟨x.1, by have := x.2; omega⟩) g.length [] m 0 ([], 1099511627776) (by simp) z.1 z.2 (by omega) (bud_cost c) BOk0).2
          refine ev_ifp (by rw [decide_eq_true_iff]; exact z) (ev_bind e (ev_now ?_))
          generalize bud g o u p g.length [] m 0 ([], 1099511627776) = B at k
          rcases k with k | rfl
          · rw [show budS B = (B.1, B.2, true) from if_pos k.2.1]
          · rfl
        · rw [if_neg (fun y => z y.2.2)]; exact ev_ifn (by rw [decide_eq_true_iff]; exact z) (ev_now rfl)
      · rw [if_neg (fun y => x ⟨y.2.1.1, by have := y.2.1.2; omega⟩)]; exact ev_ifn (by rw [decide_eq_true_iff]; exact x) (ev_now rfl)
    · rw [if_neg (fun y => h y.1.2)]; exact ev_ifn (by rw [decide_eq_true_iff]; exact h) (ev_now rfl)
  · rw [if_neg (fun y => c y.1.1)]; exact ev_ifn (by rw [decide_eq_true_iff]; exact c) (ev_now rfl)

/-! LAW FnExactBudgetOrders -/
theorem BudgetOrders_len (g : List (List Int)) (o u : Int) (p : List Int) (m : Int) : (BudgetOrdersR g o u p m).1.length ≤ 3 := by
  unfold BudgetOrdersR
  split
  · rename_i c
    have k := (bud_c c.1.1 c.1.2 c.2.1 g.length [] m 0 ([], 1099511627776) (by simp) c.2.2.1 c.2.2.2 (by omega) (bud_cost c.1.1) BOk0).2
    generalize bud g o u p g.length [] m 0 ([], 1099511627776) = B at k
    rcases k with k | rfl
    · exact k.2.2
    · simp
  · simp
theorem FnExactBudgetOrders (g : List (List Int)) (o u : Int) (p : List Int) (m : Int) (mg : g.length ≤ maxLen) (mr : ∀ x ∈ g, x.length ≤ maxLen) (_ : (Lit.int .i64 o).wf = true) (_ : (Lit.int .i64 u).wf = true) (_ : p.length ≤ maxLen) (_ : (Lit.int .i64 m).wf = true) : ∃ k, laws_FnExactBudgetOrders.Facts k g o u p m := by
  by_cases lp : (p.length : Int) > 1048576
  · exact ⟨0, .inl lp⟩
  rcases szIntSS_ev g mg mr 1048576 (by omega) (by omega) with ⟨r, hr, K, h⟩ | ⟨r, hr, ⟨K1, h1⟩, hg, ht⟩
  · exact ⟨K, .inr (.inl ⟨r, lp, h K (Nat.le_refl _), hr⟩)⟩
  have hr2 : ∀ x ∈ g, x.length ≤ 2000000 := fun x hx => by have := tl_row g x hx; omega
  have hg2 : g.length ≤ 2000000 := by omega
  have hp2 : p.length ≤ 2000000 := by omega
  have hR := BudgetOrders_len g o u p m
  obtain ⟨K2, h2⟩ := spec_BudgetOrders_ev g o u p m hg2 hr2 hp2
  obtain ⟨K3, h3⟩ := BudgetOrders_ev g o u p m hg2 hr2 hp2
  generalize BudgetOrdersR g o u p m = R at h2 h3 hR
  obtain ⟨R, b⟩ := R
  obtain ⟨K4, h4⟩ := toIntSS_ev g hg2 hr2
  obtain ⟨K5, h5⟩ := eqIntSS_ev g hg2 hr2
  obtain ⟨m1, g1, hm1, hm2, K6, h6⟩ := markIntSS_ev g hg ht
  obtain ⟨K7, h7⟩ := eqIntS_ev R (by simp only at hR; omega)
  obtain ⟨K8, h8⟩ := markIntS_ev R 1 (by omega) (by omega) (by simp only at hR; omega)
  obtain ⟨K9, h9⟩ := heldIntS_ev R.length 1 (by omega) (by omega) (by simp only at hR; omega)
  obtain ⟨Ka, ha⟩ := toIntS_ev p hp2
  obtain ⟨Kb, hb⟩ := eqIntS_ev p hp2
  obtain ⟨Kc, hc⟩ := markIntS_ev p m1 (by omega) (by omega) hp2
  refine ⟨K1 + K2 + K3 + K4 + K5 + K6 + K7 + K8 + K9 + Ka + Kb + Kc, .inr (.inr ⟨r, R, b, m1, g1, m1 + p.length, up m1 p.length, 1 + R.length, up 1 R.length, lp, h1 _ (by omega), hr, h4 _ (by omega), ha _ (by omega), h2 _ (by omega), h3 _ (by omega), h7 _ (by omega), h5 _ (by omega), hb _ (by omega), h6 _ (by omega), hm1, hc _ (by omega), by omega, h8 _ (by omega), h9 _ (by omega), by omega, up_length 1 R.length⟩)⟩

end Go.Proofs.Ytnojmhcmngejnaa.Pure
