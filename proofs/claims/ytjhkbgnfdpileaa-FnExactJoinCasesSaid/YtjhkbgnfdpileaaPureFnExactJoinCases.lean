/- The pure statement of the law FnExactJoinCases: what the program's function answers is what the reference answers, for all arguments of the kinds of its parameters. -/
import Derived.Test.YtjhkbgnfdpileaaQFnExactJoinCasesx7
import Derived.Test.YtjhkbgnfdpileaaBase
namespace Go.Proofs.Ytjhkbgnfdpileaa.Pure
set_option linter.unusedSimpArgs false
open Go.RowKit Go.Proofs.Ytjhkbgnfdpileaa.PFnExactJoinCases Go.Proofs.YtjhkbgnfdpileaaW.PrintWords Go.Proofs.YtjhkbgnfdpileaaW.PrintLast Go.Proofs.Ytjhkbgnfdpileaa.Base

/-! szIntS -/
theorem szIntS_eq (l : List Int) (a : Int) (h : l.length ≤ maxLen) (h0 : 0 ≤ a) (h1 : a ≤ 1048576) : laws_szIntS.f l a = some (if a < l.length then -1 else a - l.length) := by
  unfold maxLen at h
  unfold laws_szIntS.f
  rw [w64 (by omega) (by omega)]
  by_cases c : a < l.length
  · rw [if_pos c, if_pos (by omega)]
  · rw [if_neg c, if_neg (by omega)]

/-! szCase -/
/-- Either the case is too large, and the law says nothing, or its four lists are short. -/
theorem szCase_eq (n s u h : List Int) (hn : n.length ≤ maxLen) (hs : s.length ≤ maxLen) (hu : u.length ≤ maxLen) (hh : h.length ≤ maxLen) (a : Int) (h0 : 0 ≤ a) (h1 : a ≤ 1048576) :
    laws_szCase.f n s u h a = some (-1) ∨ (laws_szCase.f n s u h a = some (a - n.length - s.length - u.length - h.length) ∧ (n.length : Int) + s.length + u.length + h.length ≤ a) := by
  unfold laws_szCase.f
  rw [szIntS_eq n a hn h0 h1]
  by_cases c1 : a < n.length
  · left; rw [if_pos c1]; rfl
  rw [if_neg c1, Option.bind_some, if_neg (by omega), szIntS_eq s _ hs (by omega) (by omega)]
  by_cases c2 : a - n.length < s.length
  · left; rw [if_pos c2]; rfl
  rw [if_neg c2, Option.bind_some, if_neg (by omega), szIntS_eq u _ hu (by omega) (by omega)]
  by_cases c3 : a - n.length - s.length < u.length
  · left; rw [if_pos c3]; rfl
  rw [if_neg c3, Option.bind_some, if_neg (by omega), szIntS_eq h _ hh (by omega) (by omega)]
  by_cases c4 : a - n.length - s.length - u.length < h.length
  · left; rw [if_pos c4]; rfl
  right
  rw [if_neg c4, Option.bind_some, if_neg (by omega)]
  exact ⟨rfl, by omega⟩

/-! toIntS -/
theorem toIntS_l0 (l acc : List Int) (i : Nat) (hi : i ≤ l.length) (hl : l.length ≤ 2000000) (ha : acc.length = l.length) (hg : ∀ j, j < i → acc[j]? = l[j]?) :
    Ev (fun k => laws_toIntS.l0 k l acc (i : Int)) l := by
  refine ev_succ ?_
  by_cases h : i < l.length
  · simp (disch := omega) only [laws_toIntS.l0, if_pos, w64, Int.toNat_natCast]
    refine toIntS_l0 l (acc.set i (rd l i)) (i + 1) (by omega) hl (by simpa using ha) (fun j hj => ?_)
    rw [set_get _ _ _ _ (by omega)]
    by_cases e : j = i
    · subst e; rw [if_pos rfl, get_rd l j h]
    · rw [if_neg e]; exact hg j (by omega)
  · simp (disch := omega) only [laws_toIntS.l0, if_neg]
    exact ev_now (eq_of_get ha fun j hj => hg j (by omega))
 termination_by l.length - i
theorem toIntS_ev (l : List Int) (hl : l.length ≤ 2000000) : Ev (fun k => laws_toIntS.f k l) l := by
  simp (disch := omega) only [laws_toIntS.f, if_pos, Int.toNat_natCast]
  exact toIntS_l0 l _ 0 (by omega) hl (by simp) (fun j hj => by omega)

/-! toCase -/
theorem toCase_ev (n s u h : List Int) (hn : n.length ≤ 2000000) (hs : s.length ≤ 2000000) (hu : u.length ≤ 2000000) (hh : h.length ≤ 2000000) : Ev (fun k => laws_toCase.f k n s u h) (n, s, u, h) := by
  unfold laws_toCase.f
  exact ev_bind (toIntS_ev n hn) (ev_bind (toIntS_ev s hs) (ev_bind (toIntS_ev u hu) (ev_bind (toIntS_ev h hh) (ev_now rfl))))

/-! eqIntS -/
theorem eqIntS_l0 (l : List Int) (i : Nat) (hi : i ≤ l.length) (hl : l.length ≤ 2000000) : Ev (fun k => laws_eqIntS.l0 k l l (i : Int)) true := by
  refine ev_succ ?_
  by_cases h : i < l.length
  · simp (disch := omega) only [laws_eqIntS.l0, if_pos, w64]
    exact eqIntS_l0 l (i + 1) (by omega) hl
  · simp (disch := omega) only [laws_eqIntS.l0, if_neg]
    exact ev_now rfl
 termination_by l.length - i
theorem eqIntS_ev (l : List Int) (hl : l.length ≤ 2000000) : Ev (fun k => laws_eqIntS.f k l l) true := by
  simp (disch := omega) only [laws_eqIntS.f, if_pos]
  exact eqIntS_l0 l 0 (by omega) hl

/-! eqCase -/
theorem eqCase_ev (n s u h : List Int) (hn : n.length ≤ 2000000) (hs : s.length ≤ 2000000) (hu : u.length ≤ 2000000) (hh : h.length ≤ 2000000) : Ev (fun k => laws_eqCase.f k n s u h n s u h) true := by
  unfold laws_eqCase.f
  exact ev_bind (eqIntS_ev n hn) (ev_ifp rfl (ev_bind (eqIntS_ev s hs) (ev_ifp rfl (ev_bind (eqIntS_ev u hu) (ev_ifp rfl (ev_bind (eqIntS_ev h hh) (ev_ifp rfl (ev_now rfl))))))))

/-! markIntS -/
theorem markIntS_l0 (l : List Int) (m : Int) (i : Nat) (acc : List Int) (hm : 0 ≤ m) (hm2 : m ≤ 100000000) (hi : i ≤ l.length) (hl : l.length ≤ 2000000) (ha : acc.length = l.length) (hg : ∀ j, j < i → acc[j]? = (up m l.length)[j]?) :
    Ev (fun k => laws_markIntS.l0 k acc (m + i) (i : Int)) (m + l.length, up m l.length) := by
  refine ev_succ ?_
  by_cases h : i < l.length
  · simp (disch := omega) only [laws_markIntS.l0, if_pos, w64, Int.toNat_natCast]
    rw [show m + (i : Int) + 1 = m + ((i + 1 : Nat) : Int) by omega, show (i : Int) + 1 = ((i + 1 : Nat) : Int) by omega]
    refine markIntS_l0 l m (i + 1) (acc.set i (m + i)) hm hm2 (by omega) hl (by simpa using ha) (fun j hj => ?_)
    rw [set_get _ _ _ _ (by omega)]
    by_cases e : j = i
    · subst e; rw [if_pos rfl, up_get m _ _ h]
    · rw [if_neg e]; exact hg j (by omega)
  · simp (disch := omega) only [laws_markIntS.l0, if_neg]
    obtain rfl : i = l.length := by omega
    exact ev_now (by rw [eq_of_get (m := up m l.length) (by rw [up_length, ha]) (fun j hj => hg j (by omega))])
 termination_by l.length - i
theorem markIntS_ev (l : List Int) (m : Int) (hm : 0 ≤ m) (hm2 : m ≤ 100000000) (hl : l.length ≤ 2000000) : Ev (fun k => laws_markIntS.f k l m) (m + l.length, up m l.length) := by
  have h := markIntS_l0 l m 0 l hm hm2 (by omega) hl rfl (fun j hj => by omega)
  simpa [laws_markIntS.f] using h

/-! markCase -/
theorem markCase_ev (n s u h : List Int) (m : Int) (h0 : 0 ≤ m) (h1 : m ≤ 10000000) (hn : n.length ≤ 2000000) (hs : s.length ≤ 2000000) (hu : u.length ≤ 2000000) (hh : h.length ≤ 2000000) :
    Ev (fun k => laws_markCase.f k n s u h m) (m + n.length + s.length + u.length + h.length, up m n.length, up (m + n.length) s.length, up (m + n.length + s.length) u.length, up (m + n.length + s.length + u.length) h.length) := by
  unfold laws_markCase.f
  exact ev_bind (markIntS_ev n m h0 (by omega) hn) (ev_bind (markIntS_ev s _ (by omega) (by omega) hs) (ev_bind (markIntS_ev u _ (by omega) (by omega) hu) (ev_bind (markIntS_ev h _ (by omega) (by omega) hh) (ev_now rfl))))

/-! heldIntS -/
theorem heldIntS_l0 (n : Nat) (m : Int) (i : Nat) (hm : 0 ≤ m) (hm2 : m ≤ 100000000) (hi : i ≤ n) (hl : n ≤ 2000000) :
    Ev (fun k => laws_heldIntS.l0 k (up m n) (m + i) (i : Int)) (m + n) := by
  refine ev_succ ?_
  by_cases h : i < n
  · simp (disch := omega) only [laws_heldIntS.l0, up_length, if_pos, w64, up_rd m n i h]
    rw [show m + (i : Int) + 1 = m + ((i + 1 : Nat) : Int) by omega, show (i : Int) + 1 = ((i + 1 : Nat) : Int) by omega]
    exact heldIntS_l0 n m (i + 1) hm hm2 (by omega) hl
  · simp (disch := omega) only [laws_heldIntS.l0, up_length, if_neg]
    obtain rfl : i = n := by omega
    exact ev_now rfl
 termination_by n - i
theorem heldIntS_ev (n : Nat) (m : Int) (hm : 0 ≤ m) (hm2 : m ≤ 100000000) (hl : n ≤ 2000000) : Ev (fun k => laws_heldIntS.f k (up m n) m) (m + n) := by
  have h := heldIntS_l0 n m 0 hm hm2 (by omega) hl
  simpa [laws_heldIntS.f] using h

/-! heldCase -/
theorem heldCase_ev (a b c d : Nat) (ha : a ≤ 100) (hb : b ≤ 100) (hc : c ≤ 100) (hd : d ≤ 100) : Ev (fun k => laws_heldCase.f k (up 1 a) (up (1 + a) b) (up (1 + a + b) c) (up (1 + a + b + c) d) 1) (1 + a + b + c + d) := by
  unfold laws_heldCase.f
  exact ev_bind (heldIntS_ev a 1 (by omega) (by omega) (by omega)) (ev_ifn (by omega) (ev_bind (heldIntS_ev b _ (by omega) (by omega) (by omega)) (ev_ifn (by omega) (ev_bind (heldIntS_ev c _ (by omega) (by omega) (by omega)) (ev_ifn (by omega) (ev_bind (heldIntS_ev d _ (by omega) (by omega) (by omega)) (ev_ifn (by omega) (ev_now rfl))))))))

/-! OkCase -/
/-- A valid case: needs, setups, units, holds. -/
def OkCase (n s u h : List Int) : Prop := (n.length ≤ 8 ∧ s.length = n.length ∧ u.length = n.length ∧ h.length = n.length) ∧ (∀ x ∈ n, 0 ≤ x ∧ x ≤ 20) ∧ (∀ x ∈ s, 0 ≤ x ∧ x ≤ 99) ∧ (∀ x ∈ u, 0 ≤ x ∧ x ≤ 9) ∧ (∀ x ∈ h, 0 ≤ x ∧ x ≤ 9)
instance (n s u h : List Int) : Decidable (OkCase n s u h) := by unfold OkCase; infer_instance

/-! within -/
theorem within_eq (a b c : Int) : impl_within.f a b c = some (decide (b ≤ a ∧ a ≤ c)) := by
  unfold impl_within.f
  by_cases h : a ≥ b
  · rw [if_pos h]; congr 1; rw [decide_eq_decide]; omega
  · rw [if_neg h]; congr 1; symm; rw [decide_eq_false_iff_not]; omega

/-! allWithin -/
theorem allWithin_l0 (l : List Int) (lo hi : Int) (i : Nat) (h1 : i ≤ l.length) (hl : l.length ≤ 2000000) :
    Ev (fun k => impl_allWithin.l0 k lo hi l (l.length : Int) (i : Int)) (decide (∀ x ∈ l.drop i, lo ≤ x ∧ x ≤ hi)) := by
  refine ev_succ ?_
  by_cases h : i < l.length
  · simp (disch := omega) only [impl_allWithin.l0, if_pos, within_eq, Option.bind_some, w64]
    rw [drop_rd l i h]
    by_cases c : lo ≤ rd l i ∧ rd l i ≤ hi
    · refine ev_ifp (by simpa using c) ?_
      refine ev_to (allWithin_l0 l lo hi (i + 1) (by omega) hl) ?_
      rw [decide_eq_decide]; simp [c]
    · refine ev_ifn (by simpa using c) (ev_now ?_)
      symm; rw [decide_eq_false_iff_not]; simp [c]
  · simp (disch := omega) only [impl_allWithin.l0, if_neg]
    exact ev_now (by simp [List.drop_eq_nil_of_le (show l.length ≤ i by omega)])
 termination_by l.length - i
theorem allWithin_ev (l : List Int) (lo hi : Int) (hl : l.length ≤ 2000000) : Ev (fun k => impl_allWithin.f k l lo hi) (decide (∀ x ∈ l, lo ≤ x ∧ x ≤ hi)) := by
  have h := allWithin_l0 l lo hi 0 (by omega) hl
  simpa [impl_allWithin.f] using h

/-! IsCase -/
theorem IsCase_ev (n s u h : List Int) (hn : n.length ≤ 2000000) (hs : s.length ≤ 2000000) (hu : u.length ≤ 2000000) (hh : h.length ≤ 2000000) : Ev (fun k => impl_IsCase.f k n s u h) (decide (OkCase n s u h)) := by
  unfold impl_IsCase.f
  by_cases c : n.length ≤ 8 ∧ s.length = n.length ∧ u.length = n.length ∧ h.length = n.length
  · refine ev_ifp (by omega) (ev_ifp (by omega) (ev_ifp (by omega) (ev_ifp (by omega) (ev_bind (allWithin_ev n 0 20 hn) ?_))))
    by_cases c1 : ∀ x ∈ n, 0 ≤ x ∧ x ≤ 20
    · refine ev_ifp (by simpa using c1) (ev_bind (allWithin_ev s 0 99 hs) ?_)
      by_cases c2 : ∀ x ∈ s, 0 ≤ x ∧ x ≤ 99
      · refine ev_ifp (by simpa using c2) (ev_bind (allWithin_ev u 0 9 hu) ?_)
        by_cases c3 : ∀ x ∈ u, 0 ≤ x ∧ x ≤ 9
        · refine ev_ifp (by simpa using c3) (ev_bind (allWithin_ev h 0 9 hh) (ev_now ?_))
          rw [decide_eq_decide]
          exact ⟨fun z => ⟨c, c1, c2, c3, z⟩, fun z => z.2.2.2.2⟩
        · refine ev_ifn (by simpa using c3) (ev_now ?_)
          symm; rw [decide_eq_false_iff_not]; exact fun z => c3 z.2.2.2.1
      · refine ev_ifn (by simpa using c2) (ev_now ?_)
        symm; rw [decide_eq_false_iff_not]; exact fun z => c2 z.2.2.1
    · refine ev_ifn (by simpa using c1) (ev_now ?_)
      symm; rw [decide_eq_false_iff_not]; exact fun z => c1 z.2.1
  · have hf : decide (OkCase n s u h) = false := by rw [decide_eq_false_iff_not]; exact fun z => c z.1
    rw [hf]
    by_cases a : (n.length : Int) ≤ 8
    · refine ev_ifp a ?_
      by_cases b : (s.length : Int) = n.length
      · refine ev_ifp b ?_
        by_cases d : (u.length : Int) = n.length
        · exact ev_ifp d (ev_ifn (fun e => c ⟨by omega, by omega, by omega, by omega⟩) (ev_now rfl))
        · exact ev_ifn d (ev_now rfl)
      · exact ev_ifn b (ev_now rfl)
    · exact ev_ifn a (ev_now rfl)

/-! joinP -/
def JoinCasesR (n s u h n2 s2 u2 h2 : List Int) : List Int × List Int × List Int × List Int × Bool := if OkCase n s u h ∧ OkCase n2 s2 u2 h2 ∧ (n.length : Int) + n2.length ≤ 8 then (n ++ n2, s ++ s2, u ++ u2, h ++ h2, true) else ([], [], [], [], false)

/-! JoinCases -/
theorem JoinCases_ev (n s u h n2 s2 u2 h2 : List Int) (hn : n.length ≤ 2000000) (hs : s.length ≤ 2000000) (hu : u.length ≤ 2000000) (hh : h.length ≤ 2000000) (hn2 : n2.length ≤ 2000000) (hs2 : s2.length ≤ 2000000) (hu2 : u2.length ≤ 2000000) (hh2 : h2.length ≤ 2000000) : Ev (fun k => impl_JoinCases.f k n s u h n2 s2 u2 h2) (JoinCasesR n s u h n2 s2 u2 h2) := by
  unfold impl_JoinCases.f JoinCasesR
  refine ev_bind (IsCase_ev n s u h hn hs hu hh) ?_
  by_cases c : OkCase n s u h
  · refine ev_ifp (by simpa using c) (ev_bind (IsCase_ev n2 s2 u2 h2 hn2 hs2 hu2 hh2) ?_)
    by_cases d : OkCase n2 s2 u2 h2
    · refine ev_ifp (by simpa using d) ?_
      by_cases e : (n.length : Int) + (n2.length : Int) > 8
      · rw [if_neg (show ¬ (OkCase n s u h ∧ OkCase n2 s2 u2 h2 ∧ (n.length : Int) + n2.length ≤ 8) from fun z => absurd z.2.2 (by omega))]; exact ev_ifp e (ev_now rfl)
      · rw [if_pos (show (OkCase n s u h ∧ OkCase n2 s2 u2 h2 ∧ (n.length : Int) + n2.length ≤ 8) from ⟨c, d, by omega⟩)]; exact ev_ifn e (ev_now rfl)
    · rw [if_neg (show ¬ (OkCase n s u h ∧ OkCase n2 s2 u2 h2 ∧ (n.length : Int) + n2.length ≤ 8) from fun z => d z.2.1)]; exact ev_ifn (by simpa using d) (ev_now rfl)
  · rw [if_neg (show ¬ (OkCase n s u h ∧ OkCase n2 s2 u2 h2 ∧ (n.length : Int) + n2.length ≤ 8) from fun z => c z.1)]; exact ev_ifn (by simpa using c) (ev_now rfl)

/-! l1In -/
theorem l1In_eq (a b c : Int) : spec_l1In.f a b c = some (decide (b ≤ a ∧ a ≤ c)) := by
  unfold spec_l1In.f
  by_cases h : a ≥ b
  · rw [if_pos h]; congr 1; rw [decide_eq_decide]; omega
  · rw [if_neg h]; congr 1; symm; rw [decide_eq_false_iff_not]; omega

/-! l2Row -/
theorem l2Row_l0 (l : List Int) (n hi : Int) (i : Nat) (h1 : i ≤ l.length) (hl : l.length ≤ 2000000) :
    Ev (fun k => spec_l2Row.l0 k l n hi (i : Int)) (decide ((∀ x ∈ l.drop i, 0 ≤ x ∧ x ≤ hi) ∧ (l.length : Int) = n)) := by
  refine ev_succ ?_
  by_cases h : i < l.length
  · simp (disch := omega) only [spec_l2Row.l0, if_pos, l1In_eq, Option.bind_some, w64]
    rw [drop_rd l i h]
    by_cases c : 0 ≤ rd l i ∧ rd l i ≤ hi
    · refine ev_ifp (by simpa using c) ?_
      refine ev_to (l2Row_l0 l n hi (i + 1) (by omega) hl) ?_
      rw [decide_eq_decide]; simp [c]
    · refine ev_ifn (by simpa using c) (ev_now ?_)
      symm; rw [decide_eq_false_iff_not]; simp [c]
  · simp (disch := omega) only [spec_l2Row.l0, if_neg]
    exact ev_now (by
      rw [List.drop_eq_nil_of_le (show l.length ≤ i by omega)]
      rw [Bool.eq_iff_iff]; simp)
 termination_by l.length - i
theorem l2Row_ev (l : List Int) (n hi : Int) (hl : l.length ≤ 2000000) : Ev (fun k => spec_l2Row.f k l n hi) (decide ((∀ x ∈ l, 0 ≤ x ∧ x ≤ hi) ∧ (l.length : Int) = n)) := by
  have h := l2Row_l0 l n hi 0 (by omega) hl
  simpa [spec_l2Row.f] using h

/-! l2Good -/
theorem l2Good_ev (n s u h : List Int) (hn : n.length ≤ 2000000) (hs : s.length ≤ 2000000) (hu : u.length ≤ 2000000) (hh : h.length ≤ 2000000) : Ev (fun k => spec_l2Good.f k n s u h) (decide (OkCase n s u h)) := by
  unfold spec_l2Good.f
  by_cases c : (n.length : Int) ≤ 8
  · refine ev_ifp c (ev_bind (l2Row_ev n _ 20 hn) ?_)
    by_cases c1 : ∀ x ∈ n, 0 ≤ x ∧ x ≤ 20
    · refine ev_ifp (by simpa using c1) (ev_bind (l2Row_ev s _ 99 hs) ?_)
      by_cases c2 : (∀ x ∈ s, 0 ≤ x ∧ x ≤ 99) ∧ (s.length : Int) = n.length
      · refine ev_ifp (by rw [decide_eq_true_iff]; exact c2) (ev_bind (l2Row_ev u _ 9 hu) ?_)
        by_cases c3 : (∀ x ∈ u, 0 ≤ x ∧ x ≤ 9) ∧ (u.length : Int) = n.length
        · refine ev_ifp (by rw [decide_eq_true_iff]; exact c3) (ev_bind (l2Row_ev h _ 9 hh) (ev_now ?_))
          rw [decide_eq_decide]
          exact ⟨fun z => ⟨⟨by omega, by omega, by omega, by omega⟩, c1, c2.1, c3.1, z.1⟩, fun z => ⟨z.2.2.2.2, by have := z.1.2.2.2; omega⟩⟩
        · refine ev_ifn (by rw [decide_eq_true_iff]; exact c3) (ev_now ?_)
          symm; rw [decide_eq_false_iff_not]; exact fun z => c3 ⟨z.2.2.2.1, by have := z.1.2.2.1; omega⟩
      · refine ev_ifn (by rw [decide_eq_true_iff]; exact c2) (ev_now ?_)
        symm; rw [decide_eq_false_iff_not]; exact fun z => c2 ⟨z.2.2.1, by have := z.1.2.1; omega⟩
    · refine ev_ifn (by simpa using c1) (ev_now ?_)
      symm; rw [decide_eq_false_iff_not]; exact fun z => c1 z.2.1
  · refine ev_ifn c (ev_now ?_)
    symm; rw [decide_eq_false_iff_not]; exact fun z => c (by have := z.1.1; omega)

/-! l1Own -/
theorem l1Own_eq (l : List Int) (hl : l.length ≤ 2000000) : spec_l1Own.f l = some l := by
  unfold spec_l1Own.f
  simp only [Option.bind_some, List.nil_append, List.length_nil]
  rw [if_pos (by omega)]

/-! spec_JoinCases -/
theorem spec_JoinCases_no (n s u h n2 s2 u2 h2 : List Int) : Ev (fun k => spec_JoinCases.j0 k true n s u h n2 s2 u2 h2) ([], [], [], [], false) := by
  refine ev_succ ?_
  simp only [spec_JoinCases.j0]
  exact ev_ifp trivial (ev_now rfl)
theorem spec_JoinCases_ev (n s u h n2 s2 u2 h2 : List Int) (hn : n.length ≤ 2000000) (hs : s.length ≤ 2000000) (hu : u.length ≤ 2000000) (hh : h.length ≤ 2000000) (hn2 : n2.length ≤ 2000000) (hs2 : s2.length ≤ 2000000) (hu2 : u2.length ≤ 2000000) (hh2 : h2.length ≤ 2000000) : Ev (fun k => spec_JoinCases.f k n s u h n2 s2 u2 h2) (JoinCasesR n s u h n2 s2 u2 h2) := by
  unfold spec_JoinCases.f JoinCasesR
  refine ev_bind (l2Good_ev n s u h hn hs hu hh) ?_
  by_cases c : OkCase n s u h
  · refine ev_ifp (by simpa using c) (ev_bind (l2Good_ev n2 s2 u2 h2 hn2 hs2 hu2 hh2) ?_)
    by_cases d : OkCase n2 s2 u2 h2
    · refine ev_ifp (by simpa using d) ?_
      have cl := c.1
      have dl := d.1
      rw [w64 (by omega) (by omega)]
      by_cases e : (n.length : Int) + (n2.length : Int) > 8
      · rw [if_neg (show ¬ (OkCase n s u h ∧ OkCase n2 s2 u2 h2 ∧ (n.length : Int) + n2.length ≤ 8) from fun z => absurd z.2.2 (by omega)), decide_eq_true e]
        exact spec_JoinCases_no n s u h n2 s2 u2 h2
      · rw [if_pos (show (OkCase n s u h ∧ OkCase n2 s2 u2 h2 ∧ (n.length : Int) + n2.length ≤ 8) from ⟨c, d, by omega⟩), decide_eq_false e]
        refine ev_succ ?_
        simp only [spec_JoinCases.j0]
        refine ev_ifn (by decide) ?_
        refine ev_bind (f := fun n_ t => _) (ev_plain (l1Own_eq n (by omega))) (ev_ifp (by omega) ?_)
        refine ev_bind (f := fun n_ t => _) (ev_plain (l1Own_eq s (by omega))) (ev_ifp (by omega) ?_)
        refine ev_bind (f := fun n_ t => _) (ev_plain (l1Own_eq u (by omega))) (ev_ifp (by omega) ?_)
        exact ev_bind (f := fun n_ t => _) (ev_plain (l1Own_eq h (by omega))) (ev_ifp (by omega) (ev_now rfl))
    · rw [if_neg (show ¬ (OkCase n s u h ∧ OkCase n2 s2 u2 h2 ∧ (n.length : Int) + n2.length ≤ 8) from fun z => d z.2.1)]; exact ev_ifn (by simpa using d) (spec_JoinCases_no n s u h n2 s2 u2 h2)
  · rw [if_neg (show ¬ (OkCase n s u h ∧ OkCase n2 s2 u2 h2 ∧ (n.length : Int) + n2.length ≤ 8) from fun z => c z.1)]; exact ev_ifn (by simpa using c) (spec_JoinCases_no n s u h n2 s2 u2 h2)

/-! LAW FnExactJoinCases -/
theorem JoinCases_len (n s u h n2 s2 u2 h2 : List Int) : (JoinCasesR n s u h n2 s2 u2 h2).1.length ≤ 8 ∧ (JoinCasesR n s u h n2 s2 u2 h2).2.1.length ≤ 8 ∧ (JoinCasesR n s u h n2 s2 u2 h2).2.2.1.length ≤ 8 ∧ (JoinCasesR n s u h n2 s2 u2 h2).2.2.2.1.length ≤ 8 := by
  unfold JoinCasesR
  split
  · rename_i c
    have cl := c.1.1
    have dl := c.2.1.1
    have e := c.2.2
    simp only [List.length_append]
    omega
  · exact ⟨Nat.zero_le _, Nat.zero_le _, Nat.zero_le _, Nat.zero_le _⟩
theorem FnExactJoinCases (n s u h n2 s2 u2 h2 : List Int) (mn : n.length ≤ maxLen) (ms : s.length ≤ maxLen) (mu : u.length ≤ maxLen) (mh : h.length ≤ maxLen) (mn2 : n2.length ≤ maxLen) (ms2 : s2.length ≤ maxLen) (mu2 : u2.length ≤ maxLen) (mh2 : h2.length ≤ maxLen) : ∃ k, laws_FnExactJoinCases.Facts k n s u h n2 s2 u2 h2 := by
  rcases szCase_eq n s u h mn ms mu mh 1048576 (by omega) (by omega) with z | ⟨z, zl⟩
  · exact ⟨0, .inl ⟨-1, z, by omega⟩⟩
  rcases szCase_eq n2 s2 u2 h2 mn2 ms2 mu2 mh2 (1048576 - n.length - s.length - u.length - h.length) (by omega) (by omega) with y | ⟨y, yl⟩
  · exact ⟨0, .inr (.inl ⟨_, -1, z, by omega, y, by omega⟩)⟩
  have hn : n.length ≤ 2000000 := by omega
  have hs_ : s.length ≤ 2000000 := by omega
  have hu : u.length ≤ 2000000 := by omega
  have hh : h.length ≤ 2000000 := by omega
  have hn2 : n2.length ≤ 2000000 := by omega
  have hs2 : s2.length ≤ 2000000 := by omega
  have hu2 : u2.length ≤ 2000000 := by omega
  have hh2 : h2.length ≤ 2000000 := by omega
  have hR := JoinCases_len n s u h n2 s2 u2 h2
  obtain ⟨K2, e2⟩ := spec_JoinCases_ev n s u h n2 s2 u2 h2 hn hs_ hu hh hn2 hs2 hu2 hh2
  obtain ⟨K3, e3⟩ := JoinCases_ev n s u h n2 s2 u2 h2 hn hs_ hu hh hn2 hs2 hu2 hh2
  generalize JoinCasesR n s u h n2 s2 u2 h2 = R at e2 e3 hR
  obtain ⟨R0, R1, R2, R3, r⟩ := R
  simp only at hR
  obtain ⟨K4, e4⟩ := toCase_ev n s u h hn hs_ hu hh
  obtain ⟨K5, e5⟩ := eqCase_ev n s u h hn hs_ hu hh
  obtain ⟨K6, e6⟩ := markCase_ev n s u h 1 (by omega) (by omega) hn hs_ hu hh
  obtain ⟨Ka, ea⟩ := toCase_ev n2 s2 u2 h2 hn2 hs2 hu2 hh2
  obtain ⟨Kb, eb⟩ := eqCase_ev n2 s2 u2 h2 hn2 hs2 hu2 hh2
  obtain ⟨Kc, ec⟩ := markCase_ev n2 s2 u2 h2 (1 + n.length + s.length + u.length + h.length) (by omega) (by omega) hn2 hs2 hu2 hh2
  obtain ⟨K7, e7⟩ := eqCase_ev R0 R1 R2 R3 (by omega) (by omega) (by omega) (by omega)
  obtain ⟨K8, e8⟩ := markCase_ev R0 R1 R2 R3 1 (by omega) (by omega) (by omega) (by omega) (by omega) (by omega)
  obtain ⟨K9, e9⟩ := heldCase_ev R0.length R1.length R2.length R3.length (by omega) (by omega) (by omega) (by omega)
  exact ⟨K2 + K3 + K4 + K5 + K6 + K7 + K8 + K9 + Ka + Kb + Kc, .inr (.inr ⟨_, _, R0, R1, R2, R3, r, _, _, _, _, _, _, _, _, _, _, _, _, _, _, _, z, by omega, y, by omega, e4 _ (by omega), ea _ (by omega), e2 _ (by omega), e3 _ (by omega), e7 _ (by omega), e5 _ (by omega), eb _ (by omega), e6 _ (by omega), by omega, ec _ (by omega), by omega, e8 _ (by omega), e9 _ (by omega), by omega, up_length _ _, up_length _ _, up_length _ _, up_length _ _⟩)⟩

end Go.Proofs.Ytjhkbgnfdpileaa.Pure
