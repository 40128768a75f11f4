/- The pure statement of the law FnExactPlanFrom: what the program's function answers is what the reference answers, for all arguments of the kinds of its parameters. -/
import Derived.Test.YtkkockpnnoifeaaQFnExactPlanFromx6
import Derived.Test.YtkkockpnnoifeaaBase
namespace Go.Proofs.Ytkkockpnnoifeaa.Pure
set_option linter.unusedSimpArgs false
open Go.RowKit Go.Proofs.Ytkkockpnnoifeaa.PFnExactPlanFrom Go.Proofs.YtkkockpnnoifeaaW.PrintWords Go.Proofs.YtkkockpnnoifeaaW.PrintLast Go.Proofs.Ytkkockpnnoifeaa.Base

/-! szIntS -/
theorem szIntS_eq (l : List Int) (a : Int) (h : l.length ≤ maxLen) (h0 : 0 ≤ a) (h1 : a ≤ 1048576) : laws_szIntS.f l a = some (if a < l.length then -1 else a - l.length) := by
  unfold maxLen at h
  unfold laws_szIntS.f
  rw [w64 (by omega) (by omega)]
  by_cases c : a < l.length
  · rw [if_pos c, if_pos (by omega)]
  · rw [if_neg c, if_neg (by omega)]

/-! szCase -/
/-- Either the case is too large, and the law says nothing, or its four lists are short. -/
theorem szCase_eq (n s u h : List Int) (hn : n.length ≤ maxLen) (hs : s.length ≤ maxLen) (hu : u.length ≤ maxLen) (hh : h.length ≤ maxLen) (a : Int) (h0 : 0 ≤ a) (h1 : a ≤ 1048576) :
    laws_szCase.f n s u h a = some (-1) ∨ (laws_szCase.f n s u h a = some (a - n.length - s.length - u.length - h.length) ∧ (n.length : Int) + s.length + u.length + h.length ≤ a) := by
  unfold laws_szCase.f
  rw [szIntS_eq n a hn h0 h1]
  by_cases c1 : a < n.length
  · left; rw [if_pos c1]; rfl
  rw [if_neg c1, Option.bind_some, if_neg (by omega), szIntS_eq s _ hs (by omega) (by omega)]
  by_cases c2 : a - n.length < s.length
  · left; rw [if_pos c2]; rfl
  rw [if_neg c2, Option.bind_some, if_neg (by omega), szIntS_eq u _ hu (by omega) (by omega)]
  by_cases c3 : a - n.length - s.length < u.length
  · left; rw [if_pos c3]; rfl
  rw [if_neg c3, Option.bind_some, if_neg (by omega), szIntS_eq h _ hh (by omega) (by omega)]
  by_cases c4 : a - n.length - s.length - u.length < h.length
  · left; rw [if_pos c4]; rfl
  right
  rw [if_neg c4, Option.bind_some, if_neg (by omega)]
  exact ⟨rfl, by omega⟩

/-! toIntS -/
theorem toIntS_l0 (l acc : List Int) (i : Nat) (hi : i ≤ l.length) (hl : l.length ≤ 2000000) (ha : acc.length = l.length) (hg : ∀ j, j < i → acc[j]? = l[j]?) :
    Ev (fun k => laws_toIntS.l0 k l acc (i : Int)) l := by
  refine ev_succ ?_
  by_cases h : i < l.length
  · simp (disch := omega) only [laws_toIntS.l0, if_pos, w64, Int.toNat_natCast]
    refine toIntS_l0 l (acc.set i (rd l i)) (i + 1) (by omega) hl (by simpa using ha) (fun j hj => ?_)
    rw [set_get _ _ _ _ (by omega)]
    by_cases e : j = i
    · subst e; rw [if_pos rfl, get_rd l j h]
    · rw [if_neg e]; exact hg j (by omega)
  · simp (disch := omega) only [laws_toIntS.l0, if_neg]
    exact ev_now (eq_of_get ha fun j hj => hg j (by omega))
 termination_by l.length - i
theorem toIntS_ev (l : List Int) (hl : l.length ≤ 2000000) : Ev (fun k => laws_toIntS.f k l) l := by
  simp (disch := omega) only [laws_toIntS.f, if_pos, Int.toNat_natCast]
  exact toIntS_l0 l _ 0 (by omega) hl (by simp) (fun j hj => by omega)

/-! toCase -/
theorem toCase_ev (n s u h : List Int) (hn : n.length ≤ 2000000) (hs : s.length ≤ 2000000) (hu : u.length ≤ 2000000) (hh : h.length ≤ 2000000) : Ev (fun k => laws_toCase.f k n s u h) (n, s, u, h) := by
  unfold laws_toCase.f
  exact ev_bind (toIntS_ev n hn) (ev_bind (toIntS_ev s hs) (ev_bind (toIntS_ev u hu) (ev_bind (toIntS_ev h hh) (ev_now rfl))))

/-! eqIntS -/
theorem eqIntS_l0 (l : List Int) (i : Nat) (hi : i ≤ l.length) (hl : l.length ≤ 2000000) : Ev (fun k => laws_eqIntS.l0 k l l (i : Int)) true := by
  refine ev_succ ?_
  by_cases h : i < l.length
  · simp (disch := omega) only [laws_eqIntS.l0, if_pos, w64]
    exact eqIntS_l0 l (i + 1) (by omega) hl
  · simp (disch := omega) only [laws_eqIntS.l0, if_neg]
    exact ev_now rfl
 termination_by l.length - i
theorem eqIntS_ev (l : List Int) (hl : l.length ≤ 2000000) : Ev (fun k => laws_eqIntS.f k l l) true := by
  simp (disch := omega) only [laws_eqIntS.f, if_pos]
  exact eqIntS_l0 l 0 (by omega) hl

/-! eqCase -/
theorem eqCase_ev (n s u h : List Int) (hn : n.length ≤ 2000000) (hs : s.length ≤ 2000000) (hu : u.length ≤ 2000000) (hh : h.length ≤ 2000000) : Ev (fun k => laws_eqCase.f k n s u h n s u h) true := by
  unfold laws_eqCase.f
  exact ev_bind (eqIntS_ev n hn) (ev_ifp rfl (ev_bind (eqIntS_ev s hs) (ev_ifp rfl (ev_bind (eqIntS_ev u hu) (ev_ifp rfl (ev_bind (eqIntS_ev h hh) (ev_ifp rfl (ev_now rfl))))))))

/-! markIntS -/
theorem markIntS_l0 (l : List Int) (m : Int) (i : Nat) (acc : List Int) (hm : 0 ≤ m) (hm2 : m ≤ 100000000) (hi : i ≤ l.length) (hl : l.length ≤ 2000000) (ha : acc.length = l.length) (hg : ∀ j, j < i → acc[j]? = (up m l.length)[j]?) :
    Ev (fun k => laws_markIntS.l0 k acc (m + i) (i : Int)) (m + l.length, up m l.length) := by
  refine ev_succ ?_
  by_cases h : i < l.length
  · simp (disch := omega) only [laws_markIntS.l0, if_pos, w64, Int.toNat_natCast]
    rw [show m + (i : Int) + 1 = m + ((i + 1 : Nat) : Int) by omega, show (i : Int) + 1 = ((i + 1 : Nat) : Int) by omega]
    refine markIntS_l0 l m (i + 1) (acc.set i (m + i)) hm hm2 (by omega) hl (by simpa using ha) (fun j hj => ?_)
    rw [set_get _ _ _ _ (by omega)]
    by_cases e : j = i
    · subst e; rw [if_pos rfl, up_get m _ _ h]
    · rw [if_neg e]; exact hg j (by omega)
  · simp (disch := omega) only [laws_markIntS.l0, if_neg]
    obtain rfl : i = l.length := by omega
    exact ev_now (by rw [eq_of_get (m := up m l.length) (by rw [up_length, ha]) (fun j hj => hg j (by omega))])
 termination_by l.length - i
theorem markIntS_ev (l : List Int) (m : Int) (hm : 0 ≤ m) (hm2 : m ≤ 100000000) (hl : l.length ≤ 2000000) : Ev (fun k => laws_markIntS.f k l m) (m + l.length, up m l.length) := by
  have h := markIntS_l0 l m 0 l hm hm2 (by omega) hl rfl (fun j hj => by omega)
  simpa [laws_markIntS.f] using h

/-! markCase -/
theorem markCase_ev (n s u h : List Int) (m : Int) (h0 : 0 ≤ m) (h1 : m ≤ 10000000) (hn : n.length ≤ 2000000) (hs : s.length ≤ 2000000) (hu : u.length ≤ 2000000) (hh : h.length ≤ 2000000) :
    Ev (fun k => laws_markCase.f k n s u h m) (m + n.length + s.length + u.length + h.length, up m n.length, up (m + n.length) s.length, up (m + n.length + s.length) u.length, up (m + n.length + s.length + u.length) h.length) := by
  unfold laws_markCase.f
  exact ev_bind (markIntS_ev n m h0 (by omega) hn) (ev_bind (markIntS_ev s _ (by omega) (by omega) hs) (ev_bind (markIntS_ev u _ (by omega) (by omega) hu) (ev_bind (markIntS_ev h _ (by omega) (by omega) hh) (ev_now rfl))))

/-! heldIntS -/
theorem heldIntS_l0 (n : Nat) (m : Int) (i : Nat) (hm : 0 ≤ m) (hm2 : m ≤ 100000000) (hi : i ≤ n) (hl : n ≤ 2000000) :
    Ev (fun k => laws_heldIntS.l0 k (up m n) (m + i) (i : Int)) (m + n) := by
  refine ev_succ ?_
  by_cases h : i < n
  · simp (disch := omega) only [laws_heldIntS.l0, up_length, if_pos, w64, up_rd m n i h]
    rw [show m + (i : Int) + 1 = m + ((i + 1 : Nat) : Int) by omega, show (i : Int) + 1 = ((i + 1 : Nat) : Int) by omega]
    exact heldIntS_l0 n m (i + 1) hm hm2 (by omega) hl
  · simp (disch := omega) only [laws_heldIntS.l0, up_length, if_neg]
    obtain rfl : i = n := by omega
    exact ev_now rfl
 termination_by n - i
theorem heldIntS_ev (n : Nat) (m : Int) (hm : 0 ≤ m) (hm2 : m ≤ 100000000) (hl : n ≤ 2000000) : Ev (fun k => laws_heldIntS.f k (up m n) m) (m + n) := by
  have h := heldIntS_l0 n m 0 hm hm2 (by omega) hl
  simpa [laws_heldIntS.f] using h

/-! OkCase -/
/-- A valid case: needs, setups, units, holds. -/
def OkCase (n s u h : List Int) : Prop := (n.length ≤ 8 ∧ s.length = n.length ∧ u.length = n.length ∧ h.length = n.length) ∧ (∀ x ∈ n, 0 ≤ x ∧ x ≤ 20) ∧ (∀ x ∈ s, 0 ≤ x ∧ x ≤ 99) ∧ (∀ x ∈ u, 0 ≤ x ∧ x ≤ 9) ∧ (∀ x ∈ h, 0 ≤ x ∧ x ≤ 9)
instance (n s u h : List Int) : Decidable (OkCase n s u h) := by unfold OkCase; infer_instance

/-! rising -/
/-- Are the places from i on (d of them) order periods? -/
def risGo (p : List Int) (N : Int) : Nat → Nat → Bool
  | 0, _ => true
  | d + 1, i => if 0 ≤ rd p (i : Int) ∧ rd p (i : Int) ≤ N - 1 then (if 0 < i ∧ rd p ((i - 1 : Nat) : Int) ≥ rd p (i : Int) then false else risGo p N d (i + 1)) else false
theorem risGo_in (p : List Int) (N : Int) (d : Nat) : ∀ i, risGo p N d i = true → ∀ k, i ≤ k → k < i + d → (0 ≤ rd p (k : Int) ∧ rd p (k : Int) ≤ N - 1) ∧ (0 < k → rd p ((k - 1 : Nat) : Int) < rd p (k : Int)) := by
  induction d with
  | zero => intro i _ k h1 h2; omega
  | succ d ih =>
    intro i h k h1 h2
    unfold risGo at h
    by_cases a : 0 ≤ rd p (i : Int) ∧ rd p (i : Int) ≤ N - 1
    · rw [if_pos a] at h
      by_cases b : 0 < i ∧ rd p ((i - 1 : Nat) : Int) ≥ rd p (i : Int)
      · rw [if_pos b] at h; cases h
      · rw [if_neg b] at h
        by_cases e : k = i
        · subst e; exact ⟨a, fun hk => by omega⟩
        · exact ih (i + 1) h k (by omega) (by omega)
    · rw [if_neg a] at h; cases h
/-- Order periods of N periods. -/
def Ris (p : List Int) (N : Nat) : Prop := risGo p N p.length 0 = true
instance (p : List Int) (N : Nat) : Decidable (Ris p N) := by unfold Ris; infer_instance
theorem ris_at {p : List Int} {N : Nat} (h : Ris p N) (k : Nat) (hk : k < p.length) : 0 ≤ rd p (k : Int) ∧ rd p (k : Int) < N := by
  have := (risGo_in p N p.length 0 h k (by omega) (by omega)).1; omega
theorem ris_lt {p : List Int} {N : Nat} (h : Ris p N) (d : Nat) : ∀ k, k + 1 + d < p.length → rd p (k : Int) < rd p ((k + 1 + d : Nat) : Int) := by
  induction d with
  | zero =>
    intro k hk
    have := (risGo_in p N p.length 0 h (k + 1) (by omega) (by omega)).2 (by omega)
    simpa using this
  | succ d ih =>
    intro k hk
    have a := ih k (by omega)
    have b := (risGo_in p N p.length 0 h (k + 1 + (d + 1)) (by omega) (by omega)).2 (by omega)
    rw [show k + 1 + (d + 1) - 1 = k + 1 + d by omega] at b
    omega
theorem ris_mono {p : List Int} {N : Nat} (h : Ris p N) (j k : Nat) (hjk : j < k) (hk : k < p.length) : rd p (j : Int) < rd p (k : Int) := by
  have := ris_lt h (k - (j + 1)) j (by omega)
  rwa [show j + 1 + (k - (j + 1)) = k by omega] at this

/-! seg -/
/-- The sum of the places i, .., j - 1 of a list. -/
def seg (l : List Int) (i j : Nat) : Int := ((l.take j).drop i).sum
theorem seg_self (l : List Int) (i : Nat) : seg l i i = 0 := by
  unfold seg; rw [List.drop_eq_nil_of_le (by rw [List.length_take]; omega)]; rfl
theorem seg_succ (l : List Int) (i j : Nat) (hij : i ≤ j) (hj : j < l.length) : seg l i (j + 1) = seg l i j + rd l (j : Int) := by
  unfold seg
  rw [take_succ_rd l j hj, List.drop_append_of_le_length (by rw [List.length_take]; omega), List.sum_append]; simp
theorem seg_bound (l : List Int) (i j : Nat) (m : Int) (h : ∀ x ∈ l, 0 ≤ x ∧ x ≤ m) (hl : l.length ≤ 8) (h0 : 0 ≤ m) : 0 ≤ seg l i j ∧ seg l i j ≤ m * 8 := by
  have hb := sum_bound ((l.take j).drop i) 0 m (fun x hx => h x (List.mem_of_mem_take (List.mem_of_mem_drop hx)))
  have hlen : (((l.take j).drop i).length : Int) ≤ 8 := by rw [List.length_drop, List.length_take]; omega
  have := Int.mul_le_mul_of_nonneg_left hlen h0
  unfold seg; omega
theorem seg_zero (l : List Int) (j : Nat) : seg l 0 j = (l.take j).sum := rfl

/-! fromR -/
/-- Is there no need before the first order period, from period t on? -/
def covGo (n p : List Int) : Nat → Nat → Bool
  | 0, _ => true
  | d + 1, t => if 0 < p.length ∧ rd p 0 ≤ (t : Int) then true else if rd n (t : Int) > 0 then false else covGo n p d (t + 1)
/-- Where the span of order period k ends. -/
def endAt (n p : List Int) (k : Nat) : Nat := if k + 1 < p.length then (rd p ((k + 1 : Nat) : Int)).toNat else n.length
def fromGo (n p : List Int) : Nat → Nat → List Int → List Int
  | 0, _, x => x
  | d + 1, k, x => fromGo n p d (k + 1) (x.set (rd p (k : Int)).toNat (seg n (rd p (k : Int)).toNat (endAt n p k)))
theorem fromGo_len (n p : List Int) (d : Nat) : ∀ k x, (fromGo n p d k x).length = x.length := by
  induction d with
  | zero => intro k x; rfl
  | succ d ih => intro k x; simp [fromGo, ih]
/-- What stands in a list of amounts when the first c order periods are begun, up to period i. -/
def Filled (n p x : List Int) (c i : Nat) : Prop := (∀ k, k < c → rd x ((rd p (k : Int)).toNat : Int) = seg n (rd p (k : Int)).toNat (if k + 1 < c then (rd p ((k + 1 : Nat) : Int)).toNat else i)) ∧ ∀ t, t < n.length → (∀ k, k < c → (rd p (k : Int)).toNat ≠ t) → rd x (t : Int) = 0
theorem rd_set' (l : List Int) (a t : Nat) (v : Int) (ha : a < l.length) : rd (l.set a v) (t : Int) = if t = a then v else rd l (t : Int) := by
  simp only [rd, Int.toNat_natCast, List.getD_eq_getElem?_getD]
  rw [set_get l a t v ha]; split <;> simp
theorem rd_replicate (m t : Nat) : rd (List.replicate m 0) (t : Int) = 0 := by
  simp only [rd, Int.toNat_natCast, List.getD_eq_getElem?_getD, List.getElem?_replicate]; split <;> rfl
/-- The reference's list: after k order periods. -/
theorem fromGo_fill (n p : List Int) (h : Ris p n.length) (d : Nat) : ∀ k x, k + d = p.length → x.length = n.length →
    ((∀ j, j < k → rd x ((rd p (j : Int)).toNat : Int) = seg n (rd p (j : Int)).toNat (endAt n p j)) ∧ ∀ t, t < n.length → (∀ j, j < k → (rd p (j : Int)).toNat ≠ t) → rd x (t : Int) = 0) →
    ((∀ j, j < p.length → rd (fromGo n p d k x) ((rd p (j : Int)).toNat : Int) = seg n (rd p (j : Int)).toNat (endAt n p j)) ∧ ∀ t, t < n.length → (∀ j, j < p.length → (rd p (j : Int)).toNat ≠ t) → rd (fromGo n p d k x) (t : Int) = 0) := by
  induction d with
  | zero =>
    intro k x hk hx hf
    obtain rfl : k = p.length := by omega
    exact hf
  | succ d ih =>
    intro k x hk hx hf
    have pk := ris_at h k (by omega)
    unfold fromGo
    refine ih (k + 1) _ (by omega) (by simpa using hx) ⟨fun j hj => ?_, fun t ht hn => ?_⟩
    · rw [rd_set' _ _ _ _ (by omega)]
      by_cases e : j = k
      · subst e; rw [if_pos rfl]
      · have := ris_mono h j k (by omega) (by omega)
        have pj := ris_at h j (by omega)
        rw [if_neg (by omega)]; exact hf.1 j (by omega)
    · rw [rd_set' _ _ _ _ (by omega), if_neg (fun e => hn k (by omega) e.symm)]
      exact hf.2 t ht (fun j hj => hn j (by omega))
def fromR (n p : List Int) : List Int := fromGo n p p.length 0 (List.replicate n.length 0)
theorem fromR_len (n p : List Int) : (fromR n p).length = n.length := by simp [fromR, fromGo_len]
/-- A list that is filled to the end is the reference's. -/
theorem filled_eq (n p x : List Int) (h : Ris p n.length) (hx : x.length = n.length) (hf : Filled n p x p.length n.length) : x = fromR n p := by
  have g := fromGo_fill n p h p.length 0 (List.replicate n.length 0) (by omega) (by simp) ⟨fun j hj => by omega, fun t _ _ => rd_replicate _ t⟩
  refine eq_of_get (by rw [fromR_len, hx]) fun t ht => ?_
  rw [get_rd x t ht, get_rd (fromR n p) t (by rw [fromR_len]; omega)]
  congr 1
  by_cases e : ∃ k, k < p.length ∧ (rd p (k : Int)).toNat = t
  · obtain ⟨k, hk, rfl⟩ := e
    rw [hf.1 k hk]
    exact (g.1 k hk).symm
  · have e' : ∀ k, k < p.length → (rd p (k : Int)).toNat ≠ t := fun k hk z => e ⟨k, hk, z⟩
    rw [hf.2 t (by omega) e']
    exact (g.2 t (by omega) e').symm
def PlanFromR (n s u h p : List Int) : List Int × Bool := if (OkCase n s u h ∧ Ris p n.length) ∧ covGo n p n.length 0 = true then (fromR n p, true) else ([], false)
theorem PlanFromR_len (n s u h p : List Int) : (PlanFromR n s u h p).1.length ≤ 2000 := by
  unfold PlanFromR; split
  · rename_i c; show (fromR n p).length ≤ 2000; rw [fromR_len]; have := c.1.1.1; omega
  · simp

/-! within -/
theorem within_eq (a b c : Int) : impl_within.f a b c = some (decide (b ≤ a ∧ a ≤ c)) := by
  unfold impl_within.f
  by_cases h : a ≥ b
  · rw [if_pos h]; congr 1; rw [decide_eq_decide]; omega
  · rw [if_neg h]; congr 1; symm; rw [decide_eq_false_iff_not]; omega

/-! arePeriods -/
theorem arePeriods_l0 (n s u h p : List Int) (c : OkCase n s u h) (hp : p.length ≤ 2000000) (d : Nat) : ∀ i : Nat, i + d = p.length → Ev (fun k => impl_Case_arePeriods.l0 k p p (p.length : Int) (i : Int) n s u h) (risGo p (n.length : Int) d i) := by
  have cl := c.1
  induction d with
  | zero =>
    intro i hi
    refine ev_succ ?_
    simp only [impl_Case_arePeriods.l0]
    exact ev_ifn (by omega) (ev_now rfl)
  | succ d ih =>
    intro i hi
    refine ev_succ ?_
    simp only [impl_Case_arePeriods.l0, within_eq, Option.bind_some]
    refine ev_ifp (by omega) (ev_ifp (by omega) (ev_ifp (by omega) ?_))
    rw [w64 (x := (i : Int) + 1) (by omega) (by omega), w64 (x := (i : Int) - 1) (by omega) (by omega), w64 (x := (n.length : Int) - 1) (by omega) (by omega)]
    unfold risGo
    by_cases a : 0 ≤ rd p (i : Int) ∧ rd p (i : Int) ≤ (n.length : Int) - 1
    · rw [if_pos a]
      refine ev_ifp (by rw [decide_eq_true_iff]; exact a) ?_
      by_cases z : 0 < i
      · refine ev_ifp (by omega) (ev_ifp (by omega) (ev_ifp (by omega) ?_))
        rw [show (i : Int) - 1 = ((i - 1 : Nat) : Int) by omega]
        by_cases b : rd p ((i - 1 : Nat) : Int) ≥ rd p (i : Int)
        · rw [if_pos (show 0 < i ∧ rd p ((i - 1 : Nat) : Int) ≥ rd p (i : Int) from ⟨z, b⟩)]; exact ev_ifp b (ev_now rfl)
        · rw [if_neg (show ¬ (0 < i ∧ rd p ((i - 1 : Nat) : Int) ≥ rd p (i : Int)) from fun y => b y.2)]; exact ev_ifn b (ih (i + 1) (by omega))
      · rw [if_neg (show ¬ (0 < i ∧ rd p ((i - 1 : Nat) : Int) ≥ rd p (i : Int)) from fun y => z y.1)]
        exact ev_ifn (by omega) (ih (i + 1) (by omega))
    · rw [if_neg a]; exact ev_ifn (by rw [decide_eq_true_iff]; exact a) (ev_now rfl)
theorem arePeriods_ev (n s u h p : List Int) (c : OkCase n s u h) (hp : p.length ≤ 2000000) : Ev (fun k => impl_Case_arePeriods.f k n s u h p) (decide (Ris p n.length)) := by
  refine ev_to (arePeriods_l0 n s u h p c hp p.length 0 (by omega)) ?_
  unfold Ris
  exact Bool.decide_eq_true.symm

/-! allWithin -/
theorem allWithin_l0 (l : List Int) (lo hi : Int) (i : Nat) (h1 : i ≤ l.length) (hl : l.length ≤ 2000000) :
    Ev (fun k => impl_allWithin.l0 k lo hi l (l.length : Int) (i : Int)) (decide (∀ x ∈ l.drop i, lo ≤ x ∧ x ≤ hi)) := by
  refine ev_succ ?_
  by_cases h : i < l.length
  · simp (disch := omega) only [impl_allWithin.l0, if_pos, within_eq, Option.bind_some, w64]
    rw [drop_rd l i h]
    by_cases c : lo ≤ rd l i ∧ rd l i ≤ hi
    · refine ev_ifp (by simpa using c) ?_
      refine ev_to (allWithin_l0 l lo hi (i + 1) (by omega) hl) ?_
      rw [decide_eq_decide]; simp [c]
    · refine ev_ifn (by simpa using c) (ev_now ?_)
      symm; rw [decide_eq_false_iff_not]; simp [c]
  · simp (disch := omega) only [impl_allWithin.l0, if_neg]
    exact ev_now (by simp [List.drop_eq_nil_of_le (show l.length ≤ i by omega)])
 termination_by l.length - i
theorem allWithin_ev (l : List Int) (lo hi : Int) (hl : l.length ≤ 2000000) : Ev (fun k => impl_allWithin.f k l lo hi) (decide (∀ x ∈ l, lo ≤ x ∧ x ≤ hi)) := by
  have h := allWithin_l0 l lo hi 0 (by omega) hl
  simpa [impl_allWithin.f] using h

/-! IsCase -/
theorem IsCase_ev (n s u h : List Int) (hn : n.length ≤ 2000000) (hs : s.length ≤ 2000000) (hu : u.length ≤ 2000000) (hh : h.length ≤ 2000000) : Ev (fun k => impl_IsCase.f k n s u h) (decide (OkCase n s u h)) := by
  unfold impl_IsCase.f
  by_cases c : n.length ≤ 8 ∧ s.length = n.length ∧ u.length = n.length ∧ h.length = n.length
  · refine ev_ifp (by omega) (ev_ifp (by omega) (ev_ifp (by omega) (ev_ifp (by omega) (ev_bind (allWithin_ev n 0 20 hn) ?_))))
    by_cases c1 : ∀ x ∈ n, 0 ≤ x ∧ x ≤ 20
    · refine ev_ifp (by simpa using c1) (ev_bind (allWithin_ev s 0 99 hs) ?_)
      by_cases c2 : ∀ x ∈ s, 0 ≤ x ∧ x ≤ 99
      · refine ev_ifp (by simpa using c2) (ev_bind (allWithin_ev u 0 9 hu) ?_)
        by_cases c3 : ∀ x ∈ u, 0 ≤ x ∧ x ≤ 9
        · refine ev_ifp (by simpa using c3) (ev_bind (allWithin_ev h 0 9 hh) (ev_now ?_))
          rw [decide_eq_decide]
          exact ⟨fun z => ⟨c, c1, c2, c3, z⟩, fun z => z.2.2.2.2⟩
        · refine ev_ifn (by simpa using c3) (ev_now ?_)
          symm; rw [decide_eq_false_iff_not]; exact fun z => c3 z.2.2.2.1
      · refine ev_ifn (by simpa using c2) (ev_now ?_)
        symm; rw [decide_eq_false_iff_not]; exact fun z => c2 z.2.2.1
    · refine ev_ifn (by simpa using c1) (ev_now ?_)
      symm; rw [decide_eq_false_iff_not]; exact fun z => c1 z.2.1
  · have hf : decide (OkCase n s u h) = false := by rw [decide_eq_false_iff_not]; exact fun z => c z.1
    rw [hf]
    by_cases a : (n.length : Int) ≤ 8
    · refine ev_ifp a ?_
      by_cases b : (s.length : Int) = n.length
      · refine ev_ifp b ?_
        by_cases d : (u.length : Int) = n.length
        · exact ev_ifp d (ev_ifn (fun e => c ⟨by omega, by omega, by omega, by omega⟩) (ev_now rfl))
        · exact ev_ifn d (ev_now rfl)
      · exact ev_ifn b (ev_now rfl)
    · exact ev_ifn a (ev_now rfl)

/-! PlanFrom -/
/-- One step: period i is in the span of order period c' - 1. -/
theorem filled_step (n p x : List Int) (h : Ris p n.length) (hx : x.length = n.length) (c i : Nat) (hi : i < n.length) (hc : 0 < c) (hcp : c ≤ p.length) (lo : ∀ k, k < c → rd p (k : Int) ≤ i) (hf : Filled n p x c i) :
    Filled n p (x.set (rd p ((c - 1 : Nat) : Int)).toNat (rd x ((rd p ((c - 1 : Nat) : Int)).toNat : Int) + rd n (i : Int))) c (i + 1) := by
  have pc := ris_at h (c - 1) (by omega)
  have lc := lo (c - 1) (by omega)
  refine ⟨fun k hk => ?_, fun t ht hn => ?_⟩
  · have pk := ris_at h k (by omega)
    rw [rd_set' _ _ _ _ (by omega)]
    by_cases e : k = c - 1
    · subst e
      rw [if_pos rfl, hf.1 (c - 1) (by omega), if_neg (by omega), if_neg (by omega), seg_succ n _ i (by omega) hi]
    · have := ris_mono h k (c - 1) (by omega) (by omega)
      rw [if_neg (by omega), hf.1 k hk, if_pos (by omega), if_pos (by omega)]
  · rw [rd_set' _ _ _ _ (by omega), if_neg (fun e => hn (c - 1) (by omega) e.symm)]
    exact hf.2 t ht hn
/-- An order period begins. -/
theorem filled_begin (n p x : List Int) (h : Ris p n.length) (c i : Nat) (hi : i < n.length) (hcp : c < p.length) (e : rd p (c : Int) = (i : Int)) (lo : ∀ k, k < c → rd p (k : Int) < i) (hf : Filled n p x c i) : Filled n p x (c + 1) i := by
  refine ⟨fun k hk => ?_, fun t ht hn => hf.2 t ht (fun k hk => hn k (by omega))⟩
  by_cases q : k = c
  · subst q
    rw [if_neg (by omega), e, Int.toNat_natCast, seg_self]
    exact hf.2 i hi (fun k hk z => by have := lo k hk; have := ris_at h k (by omega); omega)
  · rw [hf.1 k (by omega), if_pos (show k + 1 < c + 1 by omega)]
    by_cases q2 : k + 1 < c
    · rw [if_pos q2]
    · have : k + 1 = c := by omega
      rw [if_neg q2, this, e, Int.toNat_natCast]
theorem planFrom_l0 (n s u h p : List Int) (ok : OkCase n s u h) (r : Ris p n.length) (hp : p.length ≤ 2000000) (d : Nat) : ∀ (i c : Nat) (x : List Int), i + d = n.length → x.length = n.length → c ≤ p.length → (∀ k, k < c → rd p (k : Int) < i) → (∀ k, c ≤ k → k < p.length → (i : Int) ≤ rd p (k : Int)) → Filled n p x c i →
    Ev (fun k => impl_Case_planFrom.l0 k p x (c : Int) n (n.length : Int) (i : Int)) (if 0 < c ∨ covGo n p d i = true then (fromR n p, true) else ([], false)) := by
  have cl := ok.1
  induction d with
  | zero =>
    intro i c x hi hx hc lo up hf
    refine ev_succ ?_
    simp only [impl_Case_planFrom.l0]
    refine ev_ifn (by omega) (ev_now ?_)
    rw [if_pos (.inr rfl)]
    have e : c = p.length := by
      rcases Nat.lt_or_ge c p.length with z | z
      · have := up c (Nat.le_refl _) z; have := ris_at r c z; omega
      · omega
    subst e
    obtain rfl : i = n.length := by omega
    rw [filled_eq n p x r hx hf]
  | succ d ih =>
    intro i c x hi hx hc lo up hf
    have bn := ok.2.1 _ (rd_mem n i (by omega))
    have sb : ∀ k, k < p.length → 0 ≤ seg n (rd p (k : Int)).toNat i ∧ seg n (rd p (k : Int)).toNat i ≤ 20 * 8 := fun k _ => seg_bound n _ i 20 ok.2.1 (by omega) (by omega)
    -- what follows when c' order periods are begun
    have rest : ∀ c' : Nat, c' ≤ p.length → (∀ k, k < c' → rd p (k : Int) < ((i + 1 : Nat) : Int)) → (∀ k, c' ≤ k → k < p.length → ((i + 1 : Nat) : Int) ≤ rd p (k : Int)) → Filled n p x c' i → (0 < c' ∨ (p.length = 0 ∨ (i : Int) < rd p 0)) →
        Ev (fun k => impl_Case_planFrom.j2 k p x (c' : Int) (rd n (i : Int)) n (n.length : Int) (i : Int)) (if 0 < c' ∨ covGo n p (d + 1) i = true then (fromR n p, true) else ([], false)) := by
      intro c' h1 h2 h3 h4 h5
      refine ev_succ ?_
      simp only [impl_Case_planFrom.j2]
      rw [w64 (x := (i : Int) + 1) (by omega) (by omega)]
      by_cases z : c' = 0
      · subst z
        have ne : ¬ (0 < p.length ∧ rd p 0 ≤ (i : Int)) := by
          rcases h5 with h5 | h5 | h5 <;> omega
        have ec : covGo n p (d + 1) i = if rd n (i : Int) > 0 then false else covGo n p d (i + 1) := by
          conv => lhs; unfold covGo
          rw [if_neg ne]
        rw [ec]
        refine ev_ifp (by simp) ?_
        by_cases q : rd n (i : Int) > 0
        · refine ev_ifp q (ev_now ?_)
          rw [if_pos q]; simp
        · refine ev_ifn q ?_
          rw [if_neg q]
          refine ev_to (ih (i + 1) 0 x (by omega) hx (by omega) (fun k hk => by omega) h3 ⟨fun k hk => by omega, h4.2⟩) rfl
      · have pc := ris_at r (c' - 1) (by omega)
        have q1 := h2 (c' - 1) (by omega)
        have v := h4.1 (c' - 1) (by omega)
        rw [if_neg (by omega)] at v
        have sbv := sb (c' - 1) (by omega)
        rw [w64 (x := (c' : Int) - 1) (by omega) (by omega), show (c' : Int) - 1 = ((c' - 1 : Nat) : Int) by omega]
        refine ev_ifn (by omega) (ev_ifp (by omega) (ev_ifp (by omega) (ev_ifp (by omega) (ev_ifp (by omega) ?_))))
        have ep : rd p ((c' - 1 : Nat) : Int) = (((rd p ((c' - 1 : Nat) : Int)).toNat : Nat) : Int) := by omega
        rw [show rd x (rd p ((c' - 1 : Nat) : Int)) = rd x (((rd p ((c' - 1 : Nat) : Int)).toNat : Nat) : Int) from congrArg (rd x) ep, w64 (by omega) (by omega)]
        rw [if_pos (Or.inl (show 0 < c' by omega))]
        refine ev_to (ih (i + 1) c' _ (by omega) (by simpa using hx) h1 h2 h3 (filled_step n p x r hx c' i (by omega) (by omega) h1 (fun k hk => by have := h2 k hk; omega) h4)) ?_
        rw [if_pos (Or.inl (show 0 < c' by omega))]
    refine ev_succ ?_
    simp only [impl_Case_planFrom.l0]
    refine ev_ifp (by omega) (ev_ifp (by omega) (ev_ifp (by omega) ?_))
    by_cases a : c < p.length
    · refine ev_ifp (by omega) (ev_ifp (by omega) (ev_succ ?_))
      simp only [impl_Case_planFrom.j1]
      by_cases b : rd p (c : Int) = (i : Int)
      · refine ev_ifp (by simpa using b) ?_
        rw [w64 (x := (c : Int) + 1) (by omega) (by omega)]
        have e2 : (if 0 < c ∨ covGo n p (d + 1) i = true then (fromR n p, true) else ([], false)) = (if 0 < c + 1 ∨ covGo n p (d + 1) i = true then (fromR n p, true) else ([], false)) := by
          rw [if_pos (Or.inl (show 0 < c + 1 by omega))]
          by_cases z : 0 < c
          · rw [if_pos (Or.inl z)]
          · have : covGo n p (d + 1) i = true := by
              obtain rfl : c = 0 := by omega
              unfold covGo
              rw [if_pos ⟨by omega, by rw [show rd p 0 = rd p ((0 : Nat) : Int) from rfl, b]; omega⟩]
            rw [if_pos (Or.inr this)]
        rw [e2]
        exact rest (c + 1) (by omega) (fun k hk => by
          by_cases e : k = c
          · subst e; omega
          · have := lo k (by omega); omega) (fun k h1 h2 => by have := ris_mono r c k (by omega) h2; omega) (filled_begin n p x r c i (by omega) a b lo hf) (.inl (by omega))
      · refine ev_ifn (by simpa using b) ?_
        have up' := up c (Nat.le_refl _) a
        refine rest c hc (fun k hk => by have := lo k hk; omega) (fun k h1 h2 => by
          by_cases e : k = c
          · subst e; omega
          · have := ris_mono r c k (by omega) h2; omega) hf ?_
        by_cases z : 0 < c
        · exact .inl z
        · obtain rfl : c = 0 := by omega
          exact .inr (.inr (by rw [show rd p 0 = rd p ((0 : Nat) : Int) from rfl]; omega))
    · refine ev_ifn (by omega) (ev_succ ?_)
      simp only [impl_Case_planFrom.j1]
      refine ev_ifn (by simp) ?_
      refine rest c hc (fun k hk => by have := lo k hk; omega) (fun k h1 h2 => by omega) hf ?_
      by_cases z : 0 < c
      · exact .inl z
      · exact .inr (.inl (by omega))
theorem PlanFrom_ev (n s u h p : List Int) (hp : p.length ≤ 2000000) (hn : n.length ≤ 2000000) (hs : s.length ≤ 2000000) (hu : u.length ≤ 2000000) (hh : h.length ≤ 2000000) : Ev (fun k => impl_PlanFrom.f k n s u h p) (PlanFromR n s u h p) := by
  unfold impl_PlanFrom.f PlanFromR
  refine ev_bind (IsCase_ev n s u h hn hs hu hh) ?_
  by_cases c : OkCase n s u h
  · have cl := c.1
    refine ev_ifp (by simpa using c) (ev_bind (arePeriods_ev n s u h p c hp) ?_)
    by_cases r : Ris p n.length
    · refine ev_ifp (by simpa using r) (ev_bind (a := if covGo n p n.length 0 = true then (fromR n p, true) else ([], false)) ?_ (ev_now ?_))
      · unfold impl_Case_planFrom.f
        refine ev_ifp (by omega) (ev_ifp (by omega) ?_)
        rw [Int.toNat_natCast]
        refine ev_to (planFrom_l0 n s u h p c r hp n.length 0 0 _ (by omega) (by simp) (by omega) (fun k hk => by omega) (fun k _ hk => (ris_at r k hk).1) ⟨fun k hk => by omega, fun t _ _ => rd_replicate _ t⟩) ?_
        simp
      · by_cases v : covGo n p n.length 0 = true
        · rw [if_pos v, if_pos ⟨⟨c, r⟩, v⟩]
        · rw [if_neg v, if_neg (fun z => v z.2)]
    · rw [if_neg (fun z => r z.1.2)]; exact ev_ifn (by simpa using r) (ev_now rfl)
  · rw [if_neg (fun z => c z.1.1)]; exact ev_ifn (by simpa using c) (ev_now rfl)

/-! l1In -/
theorem l1In_eq (a b c : Int) : spec_l1In.f a b c = some (decide (b ≤ a ∧ a ≤ c)) := by
  unfold spec_l1In.f
  by_cases h : a ≥ b
  · rw [if_pos h]; congr 1; rw [decide_eq_decide]; omega
  · rw [if_neg h]; congr 1; symm; rw [decide_eq_false_iff_not]; omega

/-! l1Rising -/
theorem l1Rising_l0 (p : List Int) (N : Int) (hp : p.length ≤ 2000000) (d : Nat) : ∀ i : Nat, i + d = p.length → Ev (fun k => spec_l1Rising.l0 k p 0 (N - 1) (i : Int)) (risGo p N d i) := by
  induction d with
  | zero =>
    intro i hi
    refine ev_succ ?_
    simp only [spec_l1Rising.l0]
    exact ev_ifn (by omega) (ev_now rfl)
  | succ d ih =>
    intro i hi
    refine ev_succ ?_
    simp only [spec_l1Rising.l0, l1In_eq, Option.bind_some]
    refine ev_ifp (by omega) (ev_ifp (by omega) ?_)
    rw [w64 (x := (i : Int) + 1) (by omega) (by omega), w64 (x := (i : Int) - 1) (by omega) (by omega)]
    unfold risGo
    by_cases a : 0 ≤ rd p (i : Int) ∧ rd p (i : Int) ≤ N - 1
    · rw [if_pos a]
      refine ev_ifp (by rw [decide_eq_true_iff]; exact a) ?_
      by_cases z : 0 < i
      · refine ev_ifp (by omega) (ev_ifp (by omega) (ev_ifp (by omega) ?_))
        rw [show (i : Int) - 1 = ((i - 1 : Nat) : Int) by omega]
        by_cases b : rd p ((i - 1 : Nat) : Int) ≥ rd p (i : Int)
        · rw [if_pos (show 0 < i ∧ rd p ((i - 1 : Nat) : Int) ≥ rd p (i : Int) from ⟨z, b⟩)]; exact ev_ifp b (ev_now rfl)
        · rw [if_neg (show ¬ (0 < i ∧ rd p ((i - 1 : Nat) : Int) ≥ rd p (i : Int)) from fun y => b y.2)]; exact ev_ifn b (ih (i + 1) (by omega))
      · rw [if_neg (show ¬ (0 < i ∧ rd p ((i - 1 : Nat) : Int) ≥ rd p (i : Int)) from fun y => z y.1)]
        exact ev_ifn (by omega) (ih (i + 1) (by omega))
    · rw [if_neg a]; exact ev_ifn (by rw [decide_eq_true_iff]; exact a) (ev_now rfl)
theorem l2Periods_ev (n s u h p : List Int) (c : OkCase n s u h) (hp : p.length ≤ 2000000) : Ev (fun k => spec_l2Periods.f k n s u h p) (decide (Ris p n.length)) := by
  have cl := c.1
  unfold spec_l2Periods.f spec_l1Rising.f
  rw [w64 (by omega) (by omega)]
  refine ev_bind (l1Rising_l0 p (n.length : Int) hp p.length 0 (by omega)) (ev_now ?_)
  unfold Ris
  exact Bool.decide_eq_true.symm

/-! l2Row -/
theorem l2Row_l0 (l : List Int) (n hi : Int) (i : Nat) (h1 : i ≤ l.length) (hl : l.length ≤ 2000000) :
    Ev (fun k => spec_l2Row.l0 k l n hi (i : Int)) (decide ((∀ x ∈ l.drop i, 0 ≤ x ∧ x ≤ hi) ∧ (l.length : Int) = n)) := by
  refine ev_succ ?_
  by_cases h : i < l.length
  · simp (disch := omega) only [spec_l2Row.l0, if_pos, l1In_eq, Option.bind_some, w64]
    rw [drop_rd l i h]
    by_cases c : 0 ≤ rd l i ∧ rd l i ≤ hi
    · refine ev_ifp (by simpa using c) ?_
      refine ev_to (l2Row_l0 l n hi (i + 1) (by omega) hl) ?_
      rw [decide_eq_decide]; simp [c]
    · refine ev_ifn (by simpa using c) (ev_now ?_)
      symm; rw [decide_eq_false_iff_not]; simp [c]
  · simp (disch := omega) only [spec_l2Row.l0, if_neg]
    exact ev_now (by
      rw [List.drop_eq_nil_of_le (show l.length ≤ i by omega)]
      rw [Bool.eq_iff_iff]; simp)
 termination_by l.length - i
theorem l2Row_ev (l : List Int) (n hi : Int) (hl : l.length ≤ 2000000) : Ev (fun k => spec_l2Row.f k l n hi) (decide ((∀ x ∈ l, 0 ≤ x ∧ x ≤ hi) ∧ (l.length : Int) = n)) := by
  have h := l2Row_l0 l n hi 0 (by omega) hl
  simpa [spec_l2Row.f] using h

/-! l2Good -/
theorem l2Good_ev (n s u h : List Int) (hn : n.length ≤ 2000000) (hs : s.length ≤ 2000000) (hu : u.length ≤ 2000000) (hh : h.length ≤ 2000000) : Ev (fun k => spec_l2Good.f k n s u h) (decide (OkCase n s u h)) := by
  unfold spec_l2Good.f
  by_cases c : (n.length : Int) ≤ 8
  · refine ev_ifp c (ev_bind (l2Row_ev n _ 20 hn) ?_)
    by_cases c1 : ∀ x ∈ n, 0 ≤ x ∧ x ≤ 20
    · refine ev_ifp (by simpa using c1) (ev_bind (l2Row_ev s _ 99 hs) ?_)
      by_cases c2 : (∀ x ∈ s, 0 ≤ x ∧ x ≤ 99) ∧ (s.length : Int) = n.length
      · refine ev_ifp (by rw [decide_eq_true_iff]; exact c2) (ev_bind (l2Row_ev u _ 9 hu) ?_)
        by_cases c3 : (∀ x ∈ u, 0 ≤ x ∧ x ≤ 9) ∧ (u.length : Int) = n.length
        · refine ev_ifp (by rw [decide_eq_true_iff]; exact c3) (ev_bind (l2Row_ev h _ 9 hh) (ev_now ?_))
          rw [decide_eq_decide]
          exact ⟨fun z => ⟨⟨by omega, by omega, by omega, by omega⟩, c1, c2.1, c3.1, z.1⟩, fun z => ⟨z.2.2.2.2, by have := z.1.2.2.2; omega⟩⟩
        · refine ev_ifn (by rw [decide_eq_true_iff]; exact c3) (ev_now ?_)
          symm; rw [decide_eq_false_iff_not]; exact fun z => c3 ⟨z.2.2.2.1, by have := z.1.2.2.1; omega⟩
      · refine ev_ifn (by rw [decide_eq_true_iff]; exact c2) (ev_now ?_)
        symm; rw [decide_eq_false_iff_not]; exact fun z => c2 ⟨z.2.2.1, by have := z.1.2.1; omega⟩
    · refine ev_ifn (by simpa using c1) (ev_now ?_)
      symm; rw [decide_eq_false_iff_not]; exact fun z => c1 z.2.1
  · refine ev_ifn c (ev_now ?_)
    symm; rw [decide_eq_false_iff_not]; exact fun z => c (by have := z.1.1; omega)

/-! l2Sum -/
theorem l2Sum_l0 (l : List Int) (i : Nat) (h1 : i ≤ l.length) (hl : l.length ≤ 2000) (hb : ∀ x ∈ l, 0 ≤ x ∧ x ≤ 1000000000) :
    Ev (fun k => spec_l2Sum.l0 k l (l.take i).sum (i : Int)) l.sum := by
  refine ev_succ ?_
  by_cases h : i < l.length
  · have a := sum_take_bound l i 1000000000 hb 2000 hl (by omega)
    have b := sum_take_bound l (i + 1) 1000000000 hb 2000 hl (by omega)
    rw [sum_take_succ l i h] at b
    simp (disch := omega) only [spec_l2Sum.l0, if_pos, w64]
    rw [← sum_take_succ l i h]
    exact l2Sum_l0 l (i + 1) (by omega) hl hb
  · simp (disch := omega) only [spec_l2Sum.l0, if_neg]
    exact ev_now (by rw [List.take_of_length_le (by omega)])
 termination_by l.length - i
theorem l2Sum_ev (l : List Int) (hl : l.length ≤ 2000) (hb : ∀ x ∈ l, 0 ≤ x ∧ x ≤ 1000000000) : Ev (fun k => spec_l2Sum.f k l) l.sum := by
  have h := l2Sum_l0 l 0 (by omega) hl hb
  simpa [spec_l2Sum.f] using h

/-! spec_PlanFrom -/
theorem l2Covers_l0 (n s u h p : List Int) (ok : OkCase n s u h) (d : Nat) : ∀ t : Nat, t + d = n.length → Ev (fun k => spec_l2Covers.l0 k p (t : Int) n s u h) (covGo n p d t) := by
  have cl := ok.1
  induction d with
  | zero =>
    intro t ht
    refine ev_succ ?_
    simp only [spec_l2Covers.l0]
    exact ev_ifn (by omega) (ev_now rfl)
  | succ d ih =>
    intro t ht
    have next : ∀ b : Bool, b = decide (0 < p.length ∧ rd p 0 ≤ (t : Int)) → Ev (fun k => spec_l2Covers.j1 k p (t : Int) b n s u h) (covGo n p (d + 1) t) := by
      intro b hb
      refine ev_succ ?_
      simp only [spec_l2Covers.j1]
      unfold covGo
      rw [w64 (x := (t : Int) + 1) (by omega) (by omega)]
      by_cases a : 0 < p.length ∧ rd p 0 ≤ (t : Int)
      · rw [if_pos a]; exact ev_ifp (by rw [hb]; exact decide_eq_true a) (ev_now rfl)
      · rw [if_neg a]
        refine ev_ifn (by rw [hb, decide_eq_true_iff]; exact a) (ev_ifp (by omega) (ev_ifp (by omega) ?_))
        by_cases q : rd n (t : Int) > 0
        · rw [if_pos q]; exact ev_ifp q (ev_now rfl)
        · rw [if_neg q]; exact ev_ifn q (ih (t + 1) (by omega))
    refine ev_succ ?_
    simp only [spec_l2Covers.l0]
    refine ev_ifp (by omega) ?_
    by_cases a : (p.length : Int) > 0
    · refine ev_ifp a (ev_ifp (by omega) (next _ ?_))
      rw [decide_eq_decide]; omega
    · refine ev_ifn a (next _ ?_)
      symm; rw [decide_eq_false_iff_not]; omega
theorem l2From_l0 (n s u h p : List Int) (ok : OkCase n s u h) (r : Ris p n.length) (hp : p.length ≤ 2000000) (d : Nat) : ∀ (k : Nat) (x : List Int), k + d = p.length → x.length = n.length → Ev (fun j => spec_l2From.l0 j p x (k : Int) n s u h) (fromGo n p d k x) := by
  have cl := ok.1
  induction d with
  | zero =>
    intro k x hk hx
    refine ev_succ ?_
    simp only [spec_l2From.l0]
    exact ev_ifn (by omega) (ev_now rfl)
  | succ d ih =>
    intro k x hk hx
    have pk := ris_at r k (by omega)
    refine ev_succ ?_
    simp only [spec_l2From.l0]
    rw [w64 (x := (k : Int) + 1) (by omega) (by omega), show (k : Int) + 1 = ((k + 1 : Nat) : Int) by omega]
    unfold fromGo endAt
    have sm : ∀ i j, Ev (fun q => spec_l2Sum.f q ((n.take j).drop i)) (seg n i j) := fun i j => l2Sum_ev _ (by rw [List.length_drop, List.length_take]; omega) (fun y hy => by have := ok.2.1 y (List.mem_of_mem_take (List.mem_of_mem_drop hy)); omega)
    by_cases a : k + 1 < p.length
    · have m := ris_mono r k (k + 1) (by omega) a
      have pk1 := ris_at r (k + 1) a
      rw [if_pos a]
      refine ev_ifp (by omega) (ev_ifp (by omega) (ev_ifp (by omega) (ev_ifp (by omega) (ev_ifp (by omega) (ev_ifp (by omega) (ev_ifp (by omega) (ev_bind (sm _ _) (ev_ifp (by omega) ?_))))))))
      exact ih (k + 1) _ (by omega) (by simpa using hx)
    · rw [if_neg a]
      rw [Int.toNat_natCast]
      refine ev_ifp (by omega) (ev_ifn (by omega) (ev_ifp (by omega) (ev_ifp (by omega) (ev_ifp (by omega) (ev_ifp (by omega) (ev_bind (sm _ _) (ev_ifp (by omega) ?_)))))))
      exact ih (k + 1) _ (by omega) (by simpa using hx)
theorem spec_PlanFrom_ev (n s u h p : List Int) (hp : p.length ≤ 2000000) (hn : n.length ≤ 2000000) (hs : s.length ≤ 2000000) (hu : u.length ≤ 2000000) (hh : h.length ≤ 2000000) : Ev (fun k => spec_PlanFrom.f k n s u h p) (PlanFromR n s u h p) := by
  unfold spec_PlanFrom.f PlanFromR
  refine ev_bind (l2Good_ev n s u h hn hs hu hh) ?_
  by_cases c : OkCase n s u h
  · have cl := c.1
    refine ev_ifp (by simpa using c) (ev_bind (l2Periods_ev n s u h p c hp) ?_)
    by_cases r : Ris p n.length
    · refine ev_ifp (by simpa using r) (ev_bind (a := covGo n p n.length 0) (l2Covers_l0 n s u h p c n.length 0 (by omega)) ?_)
      by_cases v : covGo n p n.length 0 = true
      · rw [if_pos (show (OkCase n s u h ∧ Ris p n.length) ∧ covGo n p n.length 0 = true from ⟨⟨c, r⟩, v⟩)]
        refine ev_ifp v (ev_bind (a := fromR n p) ?_ (ev_now rfl))
        unfold spec_l2From.f
        refine ev_ifp (by omega) (ev_ifp (by omega) ?_)
        rw [Int.toNat_natCast]
        exact l2From_l0 n s u h p c r hp p.length 0 _ (by omega) (by simp)
      · rw [if_neg (show ¬ ((OkCase n s u h ∧ Ris p n.length) ∧ covGo n p n.length 0 = true) from fun z => v z.2)]; exact ev_ifn v (ev_now rfl)
    · rw [if_neg (fun z => r z.1.2)]; exact ev_ifn (by simpa using r) (ev_now rfl)
  · rw [if_neg (fun z => c z.1.1)]; exact ev_ifn (by simpa using c) (ev_now rfl)

/-! LAW FnExactPlanFrom -/
theorem FnExactPlanFrom (n s u h p : List Int) (mn : n.length ≤ maxLen) (ms : s.length ≤ maxLen) (mu : u.length ≤ maxLen) (mh : h.length ≤ maxLen) (_ : p.length ≤ maxLen) : ∃ k, laws_FnExactPlanFrom.f k n s u h p = some true := by
  refine Ev.rounds ?_
  unfold laws_FnExactPlanFrom.f
  by_cases h0 : (p.length : Int) > 1048576
  · exact ev_ifp h0 (ev_now rfl)
  refine ev_ifn h0 ?_
  have hp : p.length ≤ 2000000 := by omega
  rcases szCase_eq n s u h mn ms mu mh 1048576 (by omega) (by omega) with z | ⟨z, zl⟩
  · rw [z]; simp only [Option.bind_some]; exact ev_ifp (by omega) (ev_now rfl)
  rw [z]; simp only [Option.bind_some]
  refine ev_ifn (by omega) ?_
  clear z mn ms mu mh
  have hn : n.length ≤ 2000000 := by omega
  have hs_ : s.length ≤ 2000000 := by omega
  have hu : u.length ≤ 2000000 := by omega
  have hh : h.length ≤ 2000000 := by omega
  have hs := spec_PlanFrom_ev n s u h p hp hn hs_ hu hh
  have hi := PlanFrom_ev n s u h p hp hn hs_ hu hh
  have hR := PlanFromR_len n s u h p
  generalize PlanFromR n s u h p = R at hs hi hR
  repeat (first
    | exact ev_now rfl
    | refine ev_bind hs ?_
    | refine ev_bind hi ?_
    | (refine ev_bind (toIntS_ev _ ?_) ?_; first | assumption | omega)
    | (refine ev_bind (eqIntS_ev _ ?_) ?_; first | assumption | omega)
    | (refine ev_bind (toCase_ev _ _ _ _ ?_ ?_ ?_ ?_) ?_; assumption; assumption; assumption; assumption)
    | (refine ev_bind (eqCase_ev _ _ _ _ ?_ ?_ ?_ ?_) ?_; assumption; assumption; assumption; assumption)
    | (refine ev_bind (markCase_ev _ _ _ _ _ ?_ ?_ ?_ ?_ ?_ ?_) ?_; omega; omega; assumption; assumption; assumption; assumption)
    | (refine ev_bind (markIntS_ev _ _ ?_ ?_ ?_) ?_; omega; omega; first | assumption | omega)
    | (refine ev_bind (heldIntS_ev _ _ ?_ ?_ ?_) ?_; omega; omega; first | assumption | omega)
    | (refine ev_ifp ?_ ?_; first | rfl | omega | focus (simp; done))
    | (refine ev_ifn ?_ ?_; first | omega | focus (simp; done))
    | (refine ev_succ ?_; simp only [laws_FnExactPlanFrom.j0])
    | (refine ev_succ ?_; simp only [laws_FnExactPlanFrom.j1])
    | (refine ev_succ ?_; simp only [laws_FnExactPlanFrom.j2]))

end Go.Proofs.Ytkkockpnnoifeaa.Pure
