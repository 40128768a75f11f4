/- The pure statement of the law FnExactCaseText: what the program's function answers is what the reference answers, for all arguments of the kinds of its parameters. -/
import Derived.Test.YtbdbogpmnmcaeaaDoorQFnExactCaseTextx6
import Derived.Test.YtbdbogpmnmcaeaaDoorBase
namespace Go.Proofs.YtbdbogpmnmcaeaaDoor.Pure
set_option linter.unusedSimpArgs false
open Go.RowKit Go.Proofs.YtbdbogpmnmcaeaaDoor.PFnExactCaseText Go.Proofs.YtbdbogpmnmcaeaaDoorW.PrintWords Go.Proofs.YtbdbogpmnmcaeaaDoorW.PrintLast Go.Proofs.YtbdbogpmnmcaeaaDoor.Base

/-! szIntS -/
theorem szIntS_eq (l : List Int) (a : Int) (h : l.length ≤ maxLen) (h0 : 0 ≤ a) (h1 : a ≤ 1048576) : laws_szIntS.f l a = some (if a < l.length then -1 else a - l.length) := by
  unfold maxLen at h
  unfold laws_szIntS.f
  rw [w64 (by omega) (by omega)]
  by_cases c : a < l.length
  · rw [if_pos c, if_pos (by omega)]
  · rw [if_neg c, if_neg (by omega)]

/-! szCase -/
/-- Either the case is too large, and the law says nothing, or its four lists are short. -/
theorem szCase_eq (n s u h : List Int) (hn : n.length ≤ maxLen) (hs : s.length ≤ maxLen) (hu : u.length ≤ maxLen) (hh : h.length ≤ maxLen) (a : Int) (h0 : 0 ≤ a) (h1 : a ≤ 1048576) :
    laws_szCase.f n s u h a = some (-1) ∨ (laws_szCase.f n s u h a = some (a - n.length - s.length - u.length - h.length) ∧ (n.length : Int) + s.length + u.length + h.length ≤ a) := by
  unfold laws_szCase.f
  rw [szIntS_eq n a hn h0 h1]
  by_cases c1 : a < n.length
  · left; rw [if_pos c1]; rfl
  rw [if_neg c1, Option.bind_some, if_neg (by omega), szIntS_eq s _ hs (by omega) (by omega)]
  by_cases c2 : a - n.length < s.length
  · left; rw [if_pos c2]; rfl
  rw [if_neg c2, Option.bind_some, if_neg (by omega), szIntS_eq u _ hu (by omega) (by omega)]
  by_cases c3 : a - n.length - s.length < u.length
  · left; rw [if_pos c3]; rfl
  rw [if_neg c3, Option.bind_some, if_neg (by omega), szIntS_eq h _ hh (by omega) (by omega)]
  by_cases c4 : a - n.length - s.length - u.length < h.length
  · left; rw [if_pos c4]; rfl
  right
  rw [if_neg c4, Option.bind_some, if_neg (by omega)]
  exact ⟨rfl, by omega⟩

/-! toIntS -/
theorem toIntS_l0 (l acc : List Int) (i : Nat) (hi : i ≤ l.length) (hl : l.length ≤ 2000000) (ha : acc.length = l.length) (hg : ∀ j, j < i → acc[j]? = l[j]?) :
    Ev (fun k => laws_toIntS.l0 k l acc (i : Int)) l := by
  refine ev_succ ?_
  by_cases h : i < l.length
  · simp (disch := omega) only [laws_toIntS.l0, if_pos, w64, Int.toNat_natCast]
    refine toIntS_l0 l (acc.set i (rd l i)) (i + 1) (by omega) hl (by simpa using ha) (fun j hj => ?_)
    rw [set_get _ _ _ _ (by omega)]
    by_cases e : j = i
    · subst e; rw [if_pos rfl, get_rd l j h]
    · rw [if_neg e]; exact hg j (by omega)
  · simp (disch := omega) only [laws_toIntS.l0, if_neg]
    exact ev_now (eq_of_get ha fun j hj => hg j (by omega))
 termination_by l.length - i
theorem toIntS_ev (l : List Int) (hl : l.length ≤ 2000000) : Ev (fun k => laws_toIntS.f k l) l := by
  simp (disch := omega) only [laws_toIntS.f, if_pos, Int.toNat_natCast]
  exact toIntS_l0 l _ 0 (by omega) hl (by simp) (fun j hj => by omega)

/-! toCase -/
theorem toCase_ev (n s u h : List Int) (hn : n.length ≤ 2000000) (hs : s.length ≤ 2000000) (hu : u.length ≤ 2000000) (hh : h.length ≤ 2000000) : Ev (fun k => laws_toCase.f k n s u h) (n, s, u, h) := by
  unfold laws_toCase.f
  exact ev_bind (toIntS_ev n hn) (ev_bind (toIntS_ev s hs) (ev_bind (toIntS_ev u hu) (ev_bind (toIntS_ev h hh) (ev_now rfl))))

/-! eqIntS -/
theorem eqIntS_l0 (l : List Int) (i : Nat) (hi : i ≤ l.length) (hl : l.length ≤ 2000000) : Ev (fun k => laws_eqIntS.l0 k l l (i : Int)) true := by
  refine ev_succ ?_
  by_cases h : i < l.length
  · simp (disch := omega) only [laws_eqIntS.l0, if_pos, w64]
    exact eqIntS_l0 l (i + 1) (by omega) hl
  · simp (disch := omega) only [laws_eqIntS.l0, if_neg]
    exact ev_now rfl
 termination_by l.length - i
theorem eqIntS_ev (l : List Int) (hl : l.length ≤ 2000000) : Ev (fun k => laws_eqIntS.f k l l) true := by
  simp (disch := omega) only [laws_eqIntS.f, if_pos]
  exact eqIntS_l0 l 0 (by omega) hl

/-! eqCase -/
theorem eqCase_ev (n s u h : List Int) (hn : n.length ≤ 2000000) (hs : s.length ≤ 2000000) (hu : u.length ≤ 2000000) (hh : h.length ≤ 2000000) : Ev (fun k => laws_eqCase.f k n s u h n s u h) true := by
  unfold laws_eqCase.f
  exact ev_bind (eqIntS_ev n hn) (ev_ifp rfl (ev_bind (eqIntS_ev s hs) (ev_ifp rfl (ev_bind (eqIntS_ev u hu) (ev_ifp rfl (ev_bind (eqIntS_ev h hh) (ev_ifp rfl (ev_now rfl))))))))

/-! OkCase -/
/-- A valid case: needs, setups, units, holds. -/
def OkCase (n s u h : List Int) : Prop := (n.length ≤ 8 ∧ s.length = n.length ∧ u.length = n.length ∧ h.length = n.length) ∧ (∀ x ∈ n, 0 ≤ x ∧ x ≤ 20) ∧ (∀ x ∈ s, 0 ≤ x ∧ x ≤ 99) ∧ (∀ x ∈ u, 0 ≤ x ∧ x ≤ 9) ∧ (∀ x ∈ h, 0 ≤ x ∧ x ≤ 9)
instance (n s u h : List Int) : Decidable (OkCase n s u h) := by unfold OkCase; infer_instance

/-! within -/
theorem within_eq (a b c : Int) : impl_within.f a b c = some (decide (b ≤ a ∧ a ≤ c)) := by
  unfold impl_within.f
  by_cases h : a ≥ b
  · rw [if_pos h]; congr 1; rw [decide_eq_decide]; omega
  · rw [if_neg h]; congr 1; symm; rw [decide_eq_false_iff_not]; omega

/-! allWithin -/
theorem allWithin_l0 (l : List Int) (lo hi : Int) (i : Nat) (h1 : i ≤ l.length) (hl : l.length ≤ 2000000) :
    Ev (fun k => impl_allWithin.l0 k lo hi l (l.length : Int) (i : Int)) (decide (∀ x ∈ l.drop i, lo ≤ x ∧ x ≤ hi)) := by
  refine ev_succ ?_
  by_cases h : i < l.length
  · simp (disch := omega) only [impl_allWithin.l0, if_pos, within_eq, Option.bind_some, w64]
    rw [drop_rd l i h]
    by_cases c : lo ≤ rd l i ∧ rd l i ≤ hi
    · refine ev_ifp (by simpa using c) ?_
      refine ev_to (allWithin_l0 l lo hi (i + 1) (by omega) hl) ?_
      rw [decide_eq_decide]; simp [c]
    · refine ev_ifn (by simpa using c) (ev_now ?_)
      symm; rw [decide_eq_false_iff_not]; simp [c]
  · simp (disch := omega) only [impl_allWithin.l0, if_neg]
    exact ev_now (by simp [List.drop_eq_nil_of_le (show l.length ≤ i by omega)])
 termination_by l.length - i
theorem allWithin_ev (l : List Int) (lo hi : Int) (hl : l.length ≤ 2000000) : Ev (fun k => impl_allWithin.f k l lo hi) (decide (∀ x ∈ l, lo ≤ x ∧ x ≤ hi)) := by
  have h := allWithin_l0 l lo hi 0 (by omega) hl
  simpa [impl_allWithin.f] using h

/-! IsCase -/
theorem IsCase_ev (n s u h : List Int) (hn : n.length ≤ 2000000) (hs : s.length ≤ 2000000) (hu : u.length ≤ 2000000) (hh : h.length ≤ 2000000) : Ev (fun k => impl_IsCase.f k n s u h) (decide (OkCase n s u h)) := by
  unfold impl_IsCase.f
  by_cases c : n.length ≤ 8 ∧ s.length = n.length ∧ u.length = n.length ∧ h.length = n.length
  · refine ev_ifp (by omega) (ev_ifp (by omega) (ev_ifp (by omega) (ev_ifp (by omega) (ev_bind (allWithin_ev n 0 20 hn) ?_))))
    by_cases c1 : ∀ x ∈ n, 0 ≤ x ∧ x ≤ 20
    · refine ev_ifp (by simpa using c1) (ev_bind (allWithin_ev s 0 99 hs) ?_)
      by_cases c2 : ∀ x ∈ s, 0 ≤ x ∧ x ≤ 99
      · refine ev_ifp (by simpa using c2) (ev_bind (allWithin_ev u 0 9 hu) ?_)
        by_cases c3 : ∀ x ∈ u, 0 ≤ x ∧ x ≤ 9
        · refine ev_ifp (by simpa using c3) (ev_bind (allWithin_ev h 0 9 hh) (ev_now ?_))
          rw [decide_eq_decide]
          exact ⟨fun z => ⟨c, c1, c2, c3, z⟩, fun z => z.2.2.2.2⟩
        · refine ev_ifn (by simpa using c3) (ev_now ?_)
          symm; rw [decide_eq_false_iff_not]; exact fun z => c3 z.2.2.2.1
      · refine ev_ifn (by simpa using c2) (ev_now ?_)
        symm; rw [decide_eq_false_iff_not]; exact fun z => c2 z.2.2.1
    · refine ev_ifn (by simpa using c1) (ev_now ?_)
      symm; rw [decide_eq_false_iff_not]; exact fun z => c1 z.2.1
  · have hf : decide (OkCase n s u h) = false := by rw [decide_eq_false_iff_not]; exact fun z => c z.1
    rw [hf]
    by_cases a : (n.length : Int) ≤ 8
    · refine ev_ifp a ?_
      by_cases b : (s.length : Int) = n.length
      · refine ev_ifp b ?_
        by_cases d : (u.length : Int) = n.length
        · exact ev_ifp d (ev_ifn (fun e => c ⟨by omega, by omega, by omega, by omega⟩) (ev_now rfl))
        · exact ev_ifn d (ev_now rfl)
      · exact ev_ifn b (ev_now rfl)
    · exact ev_ifn a (ev_now rfl)

/-! l1In -/
theorem l1In_eq (a b c : Int) : spec_l1In.f a b c = some (decide (b ≤ a ∧ a ≤ c)) := by
  unfold spec_l1In.f
  by_cases h : a ≥ b
  · rw [if_pos h]; congr 1; rw [decide_eq_decide]; omega
  · rw [if_neg h]; congr 1; symm; rw [decide_eq_false_iff_not]; omega

/-! l2Row -/
theorem l2Row_l0 (l : List Int) (n hi : Int) (i : Nat) (h1 : i ≤ l.length) (hl : l.length ≤ 2000000) :
    Ev (fun k => spec_l2Row.l0 k l n hi (i : Int)) (decide ((∀ x ∈ l.drop i, 0 ≤ x ∧ x ≤ hi) ∧ (l.length : Int) = n)) := by
  refine ev_succ ?_
  by_cases h : i < l.length
  · simp (disch := omega) only [spec_l2Row.l0, if_pos, l1In_eq, Option.bind_some, w64]
    rw [drop_rd l i h]
    by_cases c : 0 ≤ rd l i ∧ rd l i ≤ hi
    · refine ev_ifp (by simpa using c) ?_
      refine ev_to (l2Row_l0 l n hi (i + 1) (by omega) hl) ?_
      rw [decide_eq_decide]; simp [c]
    · refine ev_ifn (by simpa using c) (ev_now ?_)
      symm; rw [decide_eq_false_iff_not]; simp [c]
  · simp (disch := omega) only [spec_l2Row.l0, if_neg]
    exact ev_now (by
      rw [List.drop_eq_nil_of_le (show l.length ≤ i by omega)]
      rw [Bool.eq_iff_iff]; simp)
 termination_by l.length - i
theorem l2Row_ev (l : List Int) (n hi : Int) (hl : l.length ≤ 2000000) : Ev (fun k => spec_l2Row.f k l n hi) (decide ((∀ x ∈ l, 0 ≤ x ∧ x ≤ hi) ∧ (l.length : Int) = n)) := by
  have h := l2Row_l0 l n hi 0 (by omega) hl
  simpa [spec_l2Row.f] using h

/-! l2Good -/
theorem l2Good_ev (n s u h : List Int) (hn : n.length ≤ 2000000) (hs : s.length ≤ 2000000) (hu : u.length ≤ 2000000) (hh : h.length ≤ 2000000) : Ev (fun k => spec_l2Good.f k n s u h) (decide (OkCase n s u h)) := by
  unfold spec_l2Good.f
  by_cases c : (n.length : Int) ≤ 8
  · refine ev_ifp c (ev_bind (l2Row_ev n _ 20 hn) ?_)
    by_cases c1 : ∀ x ∈ n, 0 ≤ x ∧ x ≤ 20
    · refine ev_ifp (by simpa using c1) (ev_bind (l2Row_ev s _ 99 hs) ?_)
      by_cases c2 : (∀ x ∈ s, 0 ≤ x ∧ x ≤ 99) ∧ (s.length : Int) = n.length
      · refine ev_ifp (by rw [decide_eq_true_iff]; exact c2) (ev_bind (l2Row_ev u _ 9 hu) ?_)
        by_cases c3 : (∀ x ∈ u, 0 ≤ x ∧ x ≤ 9) ∧ (u.length : Int) = n.length
        · refine ev_ifp (by rw [decide_eq_true_iff]; exact c3) (ev_bind (l2Row_ev h _ 9 hh) (ev_now ?_))
          rw [decide_eq_decide]
          exact ⟨fun z => ⟨⟨by omega, by omega, by omega, by omega⟩, c1, c2.1, c3.1, z.1⟩, fun z => ⟨z.2.2.2.2, by have := z.1.2.2.2; omega⟩⟩
        · refine ev_ifn (by rw [decide_eq_true_iff]; exact c3) (ev_now ?_)
          symm; rw [decide_eq_false_iff_not]; exact fun z => c3 ⟨z.2.2.2.1, by have := z.1.2.2.1; omega⟩
      · refine ev_ifn (by rw [decide_eq_true_iff]; exact c2) (ev_now ?_)
        symm; rw [decide_eq_false_iff_not]; exact fun z => c2 ⟨z.2.2.1, by have := z.1.2.1; omega⟩
    · refine ev_ifn (by simpa using c1) (ev_now ?_)
      symm; rw [decide_eq_false_iff_not]; exact fun z => c1 z.2.1
  · refine ev_ifn c (ev_now ?_)
    symm; rw [decide_eq_false_iff_not]; exact fun z => c (by have := z.1.1; omega)

/-! num -/
theorem digit_at (d : Nat) (h : d < 10) : (⟨#[48, 49, 50, 51, 52, 53, 54, 55, 56, 57]⟩ : ByteArray).extract d (d + 1) = ⟨#[UInt8.ofNat (48 + d)]⟩ := by
  match d, h with
  | 0, _ => rfl
  | 1, _ => rfl
  | 2, _ => rfl
  | 3, _ => rfl
  | 4, _ => rfl
  | 5, _ => rfl
  | 6, _ => rfl
  | 7, _ => rfl
  | 8, _ => rfl
  | 9, _ => rfl
theorem bytes_app (a b : List UInt8) : (⟨a.toArray⟩ : ByteArray) ++ (⟨b.toArray⟩ : ByteArray) = ⟨(a ++ b).toArray⟩ := by
  apply ByteArray.ext
  simp [ByteArray.data_append]
theorem decDigits_len (u : Nat) : (Lib.decDigits u).length ≤ u + 1 := by
  rw [Lib.decDigits]
  by_cases h : u < 10
  · rw [dif_pos h]; simp
  · rw [dif_neg h]
    have := decDigits_len (u / 10)
    simp only [List.length_append, List.length_singleton]
    omega
 termination_by u
 decreasing_by omega
theorem numN_ev (u : Nat) (hu : u ≤ 1000000000000) : Ev (fun k => spec_l1Num.f k (u : Int)) ⟨(Lib.decDigits u).toArray⟩ := by
  refine ev_succ ?_
  simp only [spec_l1Num.f]
  refine ev_ifn (by omega) ?_
  rw [Lib.decDigits]
  by_cases h : u < 10
  · rw [dif_pos h, w64 (by omega) (by omega)]
    refine ev_ifp (by omega) (ev_ifp (by omega) (ev_ifp (by omega) (ev_ifp (by omega) (ev_now ?_))))
    rw [show ((u : Int) + 1).toNat = u + 1 by omega, Int.toNat_natCast]
    exact digit_at u h
  · rw [dif_neg h]
    refine ev_ifn (by omega) ?_
    have e1 : Int.tdiv (u : Int) 10 = ((u / 10 : Nat) : Int) := rfl
    have e2 : Int.tmod (u : Int) 10 = ((u % 10 : Nat) : Int) := rfl
    have hd : u % 10 < 10 := by omega
    rw [e1, e2, w64 (x := ((u / 10 : Nat) : Int)) (by omega) (by omega), w64 (x := ((u % 10 : Nat) : Int) + 1) (by omega) (by omega)]
    refine ev_bind (numN_ev (u / 10) (by omega)) ?_
    have e3 : ((((u % 10 : Nat) : Int)) + 1).toNat = u % 10 + 1 := by omega
    rw [e3, Int.toNat_natCast, digit_at (u % 10) hd]
    have hl := decDigits_len (u / 10)
    have hs : (⟨(Lib.decDigits (u / 10)).toArray⟩ : ByteArray).size = (Lib.decDigits (u / 10)).length := List.size_toArray
    refine ev_ifp (by omega) (ev_ifp (by omega) (ev_ifp (by omega) (ev_ifp ?_ (ev_now ?_))))
    · have h1 : (⟨#[UInt8.ofNat (48 + u % 10)]⟩ : ByteArray).size = 1 := rfl
      rw [hs, h1]
      omega
    · exact bytes_app _ [UInt8.ofNat (48 + u % 10)]
 termination_by u
 decreasing_by omega
theorem num_ev (n : Int) (h0 : -1000000000000 ≤ n) (h1 : n ≤ 1000000000000) : Ev (fun k => spec_l1Num.f k n) ⟨(Lib.itoa n).toArray⟩ := by
  unfold Lib.itoa
  by_cases c : n < 0
  · rw [if_pos c]
    refine ev_succ ?_
    simp only [spec_l1Num.f]
    refine ev_ifp c ?_
    rw [w64 (by omega) (by omega), show -n = ((n.natAbs : Nat) : Int) by omega]
    refine ev_bind (numN_ev n.natAbs (by omega)) ?_
    have hl := decDigits_len n.natAbs
    have hs : (⟨(Lib.decDigits n.natAbs).toArray⟩ : ByteArray).size = (Lib.decDigits n.natAbs).length := List.size_toArray
    exact ev_ifp (by rw [hs]; omega) (ev_now (bytes_app [45] _))
  · rw [if_neg c]
    have e : n = ((n.toNat : Nat) : Int) := by omega
    have h := numN_ev n.toNat (by omega)
    rw [← e] at h
    exact h

/-! okc -/
/-- The bounds of a valid case's numbers, place by place. -/
theorem okc_n {n s u h : List Int} (c : OkCase n s u h) (i : Nat) (hi : i < n.length) : 0 ≤ rd n (i : Int) ∧ rd n (i : Int) ≤ 20 := c.2.1 _ (rd_mem n i hi)
theorem okc_s {n s u h : List Int} (c : OkCase n s u h) (i : Nat) (hi : i < n.length) : 0 ≤ rd s (i : Int) ∧ rd s (i : Int) ≤ 99 := c.2.2.1 _ (rd_mem s i (by have := c.1; omega))
theorem okc_u {n s u h : List Int} (c : OkCase n s u h) (i : Nat) (hi : i < n.length) : 0 ≤ rd u (i : Int) ∧ rd u (i : Int) ≤ 9 := c.2.2.2.1 _ (rd_mem u i (by have := c.1; omega))
theorem okc_h {n s u h : List Int} (c : OkCase n s u h) (i : Nat) (hi : i < n.length) : 0 ≤ rd h (i : Int) ∧ rd h (i : Int) ≤ 9 := c.2.2.2.2 _ (rd_mem h i (by have := c.1; omega))

/-! parts -/
/-- The parts of a list between a byte. -/
def parts (c : UInt8) : List UInt8 → List (List UInt8)
  | [] => [[]]
  | b :: l => if b = c then [] :: parts c l else (match parts c l with
    | [] => [[b]]
    | p :: r => (b :: p) :: r)
theorem parts_ne (c : UInt8) (l : List UInt8) : ∃ p r, parts c l = p :: r := by
  cases l with
  | nil => exact ⟨_, _, rfl⟩
  | cons b l =>
    rw [parts]
    by_cases h : b = c
    · rw [if_pos h]; exact ⟨_, _, rfl⟩
    · rw [if_neg h]
      cases parts c l with
      | nil => exact ⟨_, _, rfl⟩
      | cons p r => exact ⟨_, _, rfl⟩
theorem parts_cons_ne (c b : UInt8) (l p : List UInt8) (r : List (List UInt8)) (h : b ≠ c) (e : parts c l = p :: r) : parts c (b :: l) = (b :: p) :: r := by
  rw [parts, if_neg h, e]
theorem parts_len (c : UInt8) (l : List UInt8) : (parts c l).length ≤ l.length + 1 := by
  induction l with
  | nil => simp [parts]
  | cons b l ih =>
    obtain ⟨p, r, e⟩ := parts_ne c l
    by_cases h : b = c
    · rw [parts, if_pos h]; simp only [List.length_cons]; omega
    · rw [parts_cons_ne c b l p r h e]; rw [e] at ih; simp only [List.length_cons] at ih ⊢; omega
theorem idx_ge (c : UInt8) (l : List UInt8) : -1 ≤ Lib.indexByte l c := Lib.indexByte_ge l c
theorem parts_miss (c : UInt8) (l : List UInt8) (h : Lib.indexByte l c = -1) : parts c l = [l] := by
  induction l with
  | nil => rfl
  | cons b l ih =>
    rw [Lib.indexByte] at h
    by_cases e : b = c
    · subst e; simp at h
    · have e1 : (b == c) = false := beq_eq_false_iff_ne.2 e
      rw [e1, if_neg (by decide)] at h
      have g := idx_ge c l
      by_cases f : Lib.indexByte l c = -1
      · exact parts_cons_ne c b l l [] e (ih f)
      · rw [if_neg (by simpa using f)] at h; omega
theorem parts_hit (c : UInt8) (l : List UInt8) : ∀ j : Nat, Lib.indexByte l c = j → j < l.length ∧ parts c l = l.take j :: parts c (l.drop (j + 1)) := by
  induction l with
  | nil => intro j h; rw [Lib.indexByte] at h; omega
  | cons b l ih =>
    intro j h
    rw [Lib.indexByte] at h
    by_cases e : b = c
    · have e1 : (b == c) = true := beq_iff_eq.2 e
      rw [e1, if_pos rfl] at h
      obtain rfl : j = 0 := by omega
      rw [parts, if_pos e]
      exact ⟨by simp, rfl⟩
    · have e1 : (b == c) = false := beq_eq_false_iff_ne.2 e
      rw [e1, if_neg (by decide)] at h
      have g := idx_ge c l
      by_cases f : Lib.indexByte l c = -1
      · rw [if_pos (by simpa using f)] at h; omega
      · rw [if_neg (by simpa using f)] at h
        obtain ⟨i, rfl⟩ : ∃ i, j = i + 1 := ⟨j - 1, by omega⟩
        obtain ⟨h1, h2⟩ := ih i (by omega)
        refine ⟨by rw [List.length_cons]; omega, ?_⟩
        rw [parts_cons_ne c b l _ _ e h2]
        rfl
/-- Some bytes ahead of the first part. -/
def glue (a : List UInt8) : List (List UInt8) → List (List UInt8)
  | [] => [a]
  | p :: r => (a ++ p) :: r
def mk8 (l : List UInt8) : ByteArray := ⟨l.toArray⟩
theorem glue_nil (c : UInt8) (l : List UInt8) : glue [] (parts c l) = parts c l := by
  obtain ⟨p, r, e⟩ := parts_ne c l
  rw [e]; rfl
theorem extract_mk (s : ByteArray) (a b : Nat) (_ : a ≤ b) : s.extract a b = mk8 ((s.data.toList.drop a).take (b - a)) := by
  apply ByteArray.ext
  apply Array.toList_inj.1
  rw [ByteArray.data_extract, Array.toList_extract]
  simp [mk8, List.extract_eq_take_drop]

/-! seal0 -/
theorem itoa_len (n : Int) : (Lib.itoa n).length ≤ n.natAbs + 2 := by
  unfold Lib.itoa
  by_cases c : n < 0
  · rw [if_pos c]
    have := decDigits_len n.natAbs
    simp only [List.length_cons]
    omega
  · rw [if_neg c]
    have := decDigits_len n.toNat
    omega

/-! words -/
/-- The text of period i. -/
def wd (n s u h : List Int) (i : Nat) : List UInt8 := Lib.itoa (rd n i) ++ [47] ++ Lib.itoa (rd s i) ++ [47] ++ Lib.itoa (rd u i) ++ [47] ++ Lib.itoa (rd h i)
/-- The text of the first i periods. -/
def tx (n s u h : List Int) : Nat → List UInt8
  | 0 => []
  | i + 1 => (tx n s u h i ++ (if 0 < i then [32] else [])) ++ wd n s u h i
theorem wd_len (n s u h : List Int) (c : OkCase n s u h) (i : Nat) (hi : i < n.length) : (wd n s u h i).length ≤ 200 := by
  have a1 := okc_n c i hi
  have a2 := okc_s c i hi
  have a3 := okc_u c i hi
  have a4 := okc_h c i hi
  have b1 := itoa_len (rd n i)
  have b2 := itoa_len (rd s i)
  have b3 := itoa_len (rd u i)
  have b4 := itoa_len (rd h i)
  unfold wd
  simp only [List.length_append, List.length_singleton]
  omega
theorem tx_len (n s u h : List Int) (c : OkCase n s u h) : ∀ i, i ≤ n.length → (tx n s u h i).length ≤ 201 * i := by
  intro i
  induction i with
  | zero => intro _; simp [tx]
  | succ i ih =>
    intro hi
    have a := ih (by omega)
    have b := wd_len n s u h c i (by omega)
    rw [tx]
    by_cases z : 0 < i
    · rw [if_pos z]; simp only [List.length_append, List.length_singleton]; omega
    · rw [if_neg z]; simp only [List.length_append, List.length_nil]; omega
theorem mk8_size (l : List UInt8) : (mk8 l).size = l.length := List.size_toArray

/-! l2Text -/
theorem l2Text_l0 (n s u h : List Int) (c : OkCase n s u h) (i : Nat) (hi : i ≤ n.length) :
    Ev (fun k => spec_l2Text.l0 k (mk8 (tx n s u h i)) (i : Int) n s u h) (if n.length = 0 then (⟨#[110, 111, 110, 101]⟩ : ByteArray) else mk8 (tx n s u h n.length)) := by
  have cl := c.1
  refine ev_succ ?_
  simp only [spec_l2Text.l0]
  by_cases hl : i < n.length
  · refine ev_ifp (by omega) ?_
    have a1 := okc_n c i hl
    have a2 := okc_s c i hl
    have a3 := okc_u c i hl
    have a4 := okc_h c i hl
    have b1 := itoa_len (rd n i)
    have b2 := itoa_len (rd s i)
    have b3 := itoa_len (rd u i)
    have b4 := itoa_len (rd h i)
    have bt := tx_len n s u h c i hi
    have h47 : (⟨#[47]⟩ : ByteArray).size = 1 := rfl
    have h32 : (⟨#[32]⟩ : ByteArray).size = 1 := rfl
    have e (v : Int) : (⟨(Lib.itoa v).toArray⟩ : ByteArray).size = (Lib.itoa v).length := List.size_toArray
    have step : ∀ x : List UInt8, x.length ≤ 10000 → x = tx n s u h i ++ (if 0 < i then [32] else []) → Ev (fun k => spec_l2Text.j1 k (mk8 x) (i : Int) n s u h) (if n.length = 0 then (⟨#[110, 111, 110, 101]⟩ : ByteArray) else mk8 (tx n s u h n.length)) := by
      intro x hx ex
      have ms : (mk8 x).size = x.length := List.size_toArray
      refine ev_succ ?_
      simp only [spec_l2Text.j1]
      refine ev_ifp (by omega) (ev_ifp (by omega) (ev_bind (num_ev _ (by omega) (by omega)) ?_))
      refine ev_ifp (by simp only [ByteArray.size_append, e, h47, ms]; omega) (ev_ifp (by simp only [ByteArray.size_append, e, h47, ms]; omega) (ev_ifp (by omega) (ev_bind (num_ev _ (by omega) (by omega)) ?_)))
      refine ev_ifp (by simp only [ByteArray.size_append, e, h47, ms]; omega) (ev_ifp (by simp only [ByteArray.size_append, e, h47, ms]; omega) (ev_ifp (by omega) (ev_bind (num_ev _ (by omega) (by omega)) ?_)))
      refine ev_ifp (by simp only [ByteArray.size_append, e, h47, ms]; omega) (ev_ifp (by simp only [ByteArray.size_append, e, h47, ms]; omega) (ev_ifp (by omega) (ev_bind (num_ev _ (by omega) (by omega)) ?_)))
      refine ev_ifp (by simp only [ByteArray.size_append, e, h47, ms]; omega) ?_
      rw [w64 (x := (i : Int) + 1) (by omega) (by omega)]
      have et : (((((((mk8 x ++ (⟨(Lib.itoa (rd n i)).toArray⟩ : ByteArray)) ++ (⟨#[47]⟩ : ByteArray)) ++ (⟨(Lib.itoa (rd s i)).toArray⟩ : ByteArray)) ++ (⟨#[47]⟩ : ByteArray)) ++ (⟨(Lib.itoa (rd u i)).toArray⟩ : ByteArray)) ++ (⟨#[47]⟩ : ByteArray)) ++ (⟨(Lib.itoa (rd h i)).toArray⟩ : ByteArray)) = mk8 (tx n s u h (i + 1)) := by
        apply ByteArray.ext
        apply Array.toList_inj.1
        rw [tx, ← ex]
        simp [mk8, wd, ByteArray.data_append]
      rw [et]
      exact l2Text_l0 n s u h c (i + 1) (by omega)
    by_cases z : 0 < i
    · refine ev_ifp (by omega) (ev_ifp (by rw [mk8_size]; omega) ?_)
      have e2 : mk8 (tx n s u h i) ++ (⟨#[32]⟩ : ByteArray) = mk8 (tx n s u h i ++ [32]) := by
        apply ByteArray.ext
        simp [mk8, ByteArray.data_append]
      rw [e2]
      exact step _ (by simp only [List.length_append, List.length_singleton]; omega) (by rw [if_pos z])
    · exact ev_ifn (by omega) (step _ (by omega) (by rw [if_neg z, List.append_nil]))
  · obtain rfl : i = n.length := by omega
    refine ev_ifn (by omega) ?_
    by_cases z : n.length = 0
    · rw [if_pos z]; exact ev_ifp (by omega) (ev_now rfl)
    · rw [if_neg z]; exact ev_ifn (by omega) (ev_now rfl)
 termination_by n.length - i

/-! decimals -/
theorem decimals4 (a b c d : Int) (ha : 0 ≤ a ∧ a ≤ 100) (hb : 0 ≤ b ∧ b ≤ 100) (hc : 0 ≤ c ∧ c ≤ 100) (hd : 0 ≤ d ∧ d ≤ 100) :
    Ev (fun k => impl_decimals.f k [a, b, c, d] (⟨#[47]⟩ : ByteArray)) (mk8 (Lib.itoa a ++ [47] ++ Lib.itoa b ++ [47] ++ Lib.itoa c ++ [47] ++ Lib.itoa d)) := by
  have b1 := itoa_len a
  have b2 := itoa_len b
  have b3 := itoa_len c
  have b4 := itoa_len d
  have ei : ∀ v : Int, 0 ≤ v ∧ v ≤ 100 → strconv_Itoa_49.f v = some (mk8 (Lib.itoa v)) := fun v hv => if_pos (by omega)
  unfold impl_decimals.f
  refine ev_succ ?_
  simp only [impl_decimals.l0]
  refine ev_ifp (by simp) (ev_ifp (by omega) (ev_ifp (by simp) ?_))
  rw [show rd [a, b, c, d] 0 = a from rfl, ei a ha, w64 (x := 0 + 1) (by omega) (by omega)]
  simp only [Option.bind_some]
  refine ev_ifp (by simp) (ev_succ ?_)
  simp only [impl_decimals.l0]
  refine ev_ifp (by simp) (ev_ifp (by omega) (ev_ifp (by simp) ?_))
  rw [show rd [a, b, c, d] (0 + 1) = b from rfl, ei b hb, w64 (x := 0 + 1 + 1) (by omega) (by omega)]
  simp only [Option.bind_some]
  refine ev_ifp (by simp) (ev_succ ?_)
  simp only [impl_decimals.l0]
  refine ev_ifp (by simp) (ev_ifp (by omega) (ev_ifp (by simp) ?_))
  rw [show rd [a, b, c, d] (0 + 1 + 1) = c from rfl, ei c hc, w64 (x := 0 + 1 + 1 + 1) (by omega) (by omega)]
  simp only [Option.bind_some]
  refine ev_ifp (by simp) (ev_succ ?_)
  simp only [impl_decimals.l0]
  refine ev_ifp (by simp) (ev_ifp (by omega) (ev_ifp (by simp) ?_))
  rw [show rd [a, b, c, d] (0 + 1 + 1 + 1) = d from rfl, ei d hd, w64 (x := 0 + 1 + 1 + 1 + 1) (by omega) (by omega)]
  simp only [Option.bind_some]
  refine ev_ifp (by simp) (ev_succ ?_)
  simp only [impl_decimals.l0]
  refine ev_ifn (by simp) ?_
  have ej : strings_Join.f ((([] ++ [mk8 (Lib.itoa a)]) ++ [mk8 (Lib.itoa b)]) ++ [mk8 (Lib.itoa c)] ++ [mk8 (Lib.itoa d)]) (⟨#[47]⟩ : ByteArray) = some (mk8 (Lib.itoa a ++ [47] ++ Lib.itoa b ++ [47] ++ Lib.itoa c ++ [47] ++ Lib.itoa d)) := by
    have e : Lib.join (((((([] : List ByteArray) ++ [mk8 (Lib.itoa a)]) ++ [mk8 (Lib.itoa b)]) ++ [mk8 (Lib.itoa c)]) ++ [mk8 (Lib.itoa d)]).map (fun z : ByteArray => z.data.toList)) (⟨#[47]⟩ : ByteArray).data.toList = Lib.itoa a ++ [47] ++ Lib.itoa b ++ [47] ++ Lib.itoa c ++ [47] ++ Lib.itoa d := by
      simp [Lib.join_cons, Lib.joinTail, mk8]
    unfold strings_Join.f
    rw [e]
    refine if_pos ⟨by simp, by simp, ?_⟩
    simp only [List.length_append, List.length_singleton]
    omega
  rw [ej]
  exact ev_now rfl

/-! caseText -/
def words (n s u h : List Int) (i : Nat) : List ByteArray := (List.range i).map (fun j => mk8 (wd n s u h j))
theorem words_succ (n s u h : List Int) (i : Nat) : words n s u h (i + 1) = words n s u h i ++ [mk8 (wd n s u h i)] := by
  unfold words
  rw [List.range_succ, List.map_append]
  rfl
theorem words_len (n s u h : List Int) (i : Nat) : (words n s u h i).length = i := by simp [words]
theorem words_join (n s u h : List Int) (i : Nat) : 0 < i → Lib.join ((words n s u h i).map (·.data.toList)) [32] = tx n s u h i := by
  induction i with
  | zero => intro h; omega
  | succ i ih =>
    intro _
    rw [words_succ, tx, List.map_append]
    by_cases z : 0 < i
    · rw [if_pos z, ← ih z]
      obtain ⟨x, r, e⟩ : ∃ x r, (words n s u h i).map (·.data.toList) = x :: r := by
        cases e : (words n s u h i).map (·.data.toList) with
        | nil => have := congrArg List.length e; rw [List.length_map, words_len] at this; simp at this; omega
        | cons x r => exact ⟨x, r, rfl⟩
      rw [e, List.cons_append, Lib.join_cons, Lib.join_cons]
      simp [Lib.joinTail, mk8]
    · obtain rfl : i = 0 := by omega
      simp [words, tx, mk8, Lib.join_one]
theorem caseText_l0 (n s u h : List Int) (c : OkCase n s u h) (i : Nat) (hi : i ≤ n.length) :
    Ev (fun k => impl_caseText.l0 k (words n s u h i) n (n.length : Int) (i : Int) n s u h) (if n.length = 0 then (⟨#[110, 111, 110, 101]⟩ : ByteArray) else mk8 (tx n s u h n.length)) := by
  have cl := c.1
  refine ev_succ ?_
  simp only [impl_caseText.l0]
  by_cases hl : i < n.length
  · have a1 := okc_n c i hl
    have a2 := okc_s c i hl
    have a3 := okc_u c i hl
    have a4 := okc_h c i hl
    refine ev_ifp (by omega) (ev_ifp (by omega) (ev_ifp (by omega) (ev_ifp (by omega) (ev_ifp (by omega) (ev_ifp (by omega) ?_)))))
    refine ev_bind (decimals4 _ _ _ _ (by omega) (by omega) (by omega) (by omega)) (ev_ifp (by rw [words_len]; omega) ?_)
    rw [w64 (x := (i : Int) + 1) (by omega) (by omega)]
    have e := words_succ n s u h i
    unfold wd at e
    rw [← e]
    exact caseText_l0 n s u h c (i + 1) (by omega)
  · obtain rfl : i = n.length := by omega
    refine ev_ifn (by omega) ?_
    by_cases z : n.length = 0
    · rw [if_pos z]; exact ev_ifp (by rw [words_len]; omega) (ev_now rfl)
    · rw [if_neg z]
      refine ev_ifn (by rw [words_len]; omega) ?_
      have e : strings_Join.f (words n s u h n.length) (⟨#[32]⟩ : ByteArray) = some (mk8 (tx n s u h n.length)) := by
        have ej : Lib.join ((words n s u h n.length).map (·.data.toList)) (⟨#[32]⟩ : ByteArray).data.toList = tx n s u h n.length := words_join n s u h n.length (by omega)
        unfold strings_Join.f
        rw [ej]
        have bt := tx_len n s u h c n.length (Nat.le_refl _)
        exact if_pos ⟨by rw [words_len]; omega, by rw [words_len]; omega, by omega⟩
      rw [e]
      exact ev_now rfl
 termination_by n.length - i

/-! LAW FnExactCaseText -/
theorem FnExactCaseText (n s u h : List Int) (mn : n.length ≤ maxLen) (ms : s.length ≤ maxLen) (mu : u.length ≤ maxLen) (mh : h.length ≤ maxLen) : ∃ k, laws_FnExactCaseText.f k n s u h = some true := by
  refine Ev.rounds ?_
  unfold laws_FnExactCaseText.f
  rcases szCase_eq n s u h mn ms mu mh 1048576 (by omega) (by omega) with z | ⟨z, zl⟩
  · rw [z]; simp only [Option.bind_some]; exact ev_ifp (by omega) (ev_now rfl)
  rw [z]; simp only [Option.bind_some]
  refine ev_ifn (by omega) ?_
  clear z mn ms mu mh
  have hn : n.length ≤ 2000000 := by omega
  have hs_ : s.length ≤ 2000000 := by omega
  have hu : u.length ≤ 2000000 := by omega
  have hh : h.length ≤ 2000000 := by omega
  have hn : n.length ≤ 2000000 := by omega
  have hs : s.length ≤ 2000000 := by omega
  have hu : u.length ≤ 2000000 := by omega
  have hh : h.length ≤ 2000000 := by omega
  obtain ⟨R, h1, h2⟩ : ∃ R : ByteArray × Bool, Ev (fun k => spec_CaseText.f k n s u h) R ∧ Ev (fun k => impl_CaseText.f k n s u h) R := by
    unfold spec_CaseText.f impl_CaseText.f
    by_cases c : OkCase n s u h
    · exact ⟨_, ev_bind (l2Good_ev n s u h hn hs hu hh) (ev_ifp (by simpa using c) (ev_bind (l2Text_l0 n s u h c 0 (by omega)) (ev_now rfl))), ev_bind (IsCase_ev n s u h hn hs hu hh) (ev_ifp (by simpa using c) (ev_bind (caseText_l0 n s u h c 0 (by omega)) (ev_now rfl)))⟩
    · exact ⟨_, ev_bind (l2Good_ev n s u h hn hs hu hh) (ev_ifn (by simpa using c) (ev_now rfl)), ev_bind (IsCase_ev n s u h hn hs hu hh) (ev_ifn (by simpa using c) (ev_now rfl))⟩
  refine ev_bind (toCase_ev n s u h hn hs hu hh) (ev_bind h1 (ev_bind (toCase_ev n s u h hn hs hu hh) (ev_bind h2 (ev_ifp (by simp) (ev_succ ?_)))))
  simp only [laws_FnExactCaseText.j0]
  exact ev_ifn (by simp) (ev_bind (toCase_ev n s u h hn hs hu hh) (ev_bind (eqCase_ev n s u h hn hs hu hh) (ev_ifp rfl (ev_now rfl))))

end Go.Proofs.YtbdbogpmnmcaeaaDoor.Pure
