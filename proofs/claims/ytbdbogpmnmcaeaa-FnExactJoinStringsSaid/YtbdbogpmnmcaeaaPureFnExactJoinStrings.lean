/- The pure statement of the law FnExactJoinStrings: what the program's function answers is what the reference answers, for all arguments of the kinds of its parameters. -/
import Derived.Test.YtbdbogpmnmcaeaaQFnExactJoinStringsx2
import Derived.Test.YtbdbogpmnmcaeaaBase
namespace Go.Proofs.Ytbdbogpmnmcaeaa.Pure
set_option linter.unusedSimpArgs false
open Go.RowKit Go.Proofs.Ytbdbogpmnmcaeaa.PFnExactJoinStrings Go.Proofs.YtbdbogpmnmcaeaaW.PrintWords Go.Proofs.YtbdbogpmnmcaeaaW.PrintLast Go.Proofs.Ytbdbogpmnmcaeaa.Base

/-! rdS -/
abbrev rdS (l : List ByteArray) (i : Int) : ByteArray := rdOf ByteArray.empty l i
theorem rdS_get (l : List ByteArray) (i : Nat) (h : i < l.length) : rdOf ByteArray.empty l (i : Int) = l[i] := by simp [rdOf, List.getD_eq_getElem?_getD, h]
theorem get_rdS (l : List ByteArray) (i : Nat) (h : i < l.length) : l[i]? = some (rdOf ByteArray.empty l (i : Int)) := by rw [rdS_get l i h]; simp [h]
theorem drop_rdS (l : List ByteArray) (i : Nat) (h : i < l.length) : l.drop i = rdOf ByteArray.empty l (i : Int) :: l.drop (i + 1) := by
  rw [List.drop_eq_getElem_cons h, rdS_get l i h]
theorem set_getS (l : List ByteArray) (i j : Nat) (v : ByteArray) (hi : i < l.length) : (l.set i v)[j]? = if j = i then some v else l[j]? := by
  by_cases h : j = i
  · subst h; simp [hi]
  · rw [if_neg h, List.getElem?_set_ne (Ne.symm h)]
theorem eq_of_getS {l m : List ByteArray} (hl : l.length = m.length) (h : ∀ j, j < l.length → l[j]? = m[j]?) : l = m := by
  apply List.ext_getElem?
  intro j
  by_cases hj : j < l.length
  · exact h j hj
  · rw [List.getElem?_eq_none (by omega), List.getElem?_eq_none (by omega)]
/-- The bytes of some strings, counted. -/
def szs : List ByteArray → Nat
  | [] => 0
  | x :: r => x.size + szs r

/-! szStringS -/
theorem szStringS_l0 (l : List ByteArray) (hl : l.length ≤ maxLen) (hs : ∀ s ∈ l, s.size ≤ maxLen) (i : Nat) (a : Int) (h0 : 0 ≤ a) (h1 : a ≤ 1048576) (hi : i ≤ l.length) :
    ∃ r, Ev (fun k => laws_szStringS.l0 k l a (i : Int)) r ∧ (r = -1 ∨ r = a - szs (l.drop i) ∧ 0 ≤ r) := by
  unfold maxLen at hl hs
  by_cases h : i < l.length
  · have hx : (rdOf ByteArray.empty l (i : Int)).size ≤ 9223372036854775807 := hs _ (by rw [rdS_get l i h]; exact List.getElem_mem h)
    by_cases c : a - ((rdOf ByteArray.empty l (i : Int)).size : Int) < 0
    · refine ⟨-1, ev_succ ?_, .inl rfl⟩
      simp only [laws_szStringS.l0]
      exact ev_ifp (by omega) (ev_ifp (by omega) (ev_ifp (by rw [w64 (by omega) (by omega)]; exact c) (ev_now rfl)))
    · obtain ⟨r, hr, hv⟩ := szStringS_l0 l hl hs (i + 1) (a - ((rdOf ByteArray.empty l (i : Int)).size : Int)) (by omega) (by omega) (by omega)
      refine ⟨r, ev_succ ?_, ?_⟩
      · simp only [laws_szStringS.l0]
        rw [w64 (x := a - _) (by omega) (by omega), w64 (x := (i : Int) + 1) (by omega) (by omega)]
        exact ev_ifp (by omega) (ev_ifp (by omega) (ev_ifn c hr))
      · rw [drop_rdS l i h, szs]
        omega
  · refine ⟨a, ev_succ ?_, .inr ⟨?_, h0⟩⟩
    · simp only [laws_szStringS.l0]
      exact ev_ifn (by omega) (ev_now rfl)
    · rw [List.drop_eq_nil_of_le (by omega), szs]; omega
 termination_by l.length - i
theorem szStringS_ev (l : List ByteArray) (hl : l.length ≤ maxLen) (hs : ∀ s ∈ l, s.size ≤ maxLen) (a : Int) (h0 : 0 ≤ a) (h1 : a ≤ 1048576) :
    ∃ r, Ev (fun k => laws_szStringS.f k l a) r ∧ (r = -1 ∨ r = a - l.length - szs l ∧ 0 ≤ r) := by
  have hl' : l.length ≤ 9223372036854775807 := hl
  unfold laws_szStringS.f
  rw [w64 (by omega) (by omega)]
  by_cases c : a - (l.length : Int) < 0
  · exact ⟨-1, ev_ifp c (ev_now rfl), .inl rfl⟩
  · obtain ⟨r, hr, hv⟩ := szStringS_l0 l hl hs 0 (a - l.length) (by omega) (by omega) (by omega)
    refine ⟨r, ev_ifn c hr, ?_⟩
    rw [List.drop_zero] at hv
    omega

/-! toStringS -/
theorem toStringS_l0 (l acc : List ByteArray) (i : Nat) (hi : i ≤ l.length) (hl : l.length ≤ 2000000) (ha : acc.length = l.length) (hg : ∀ j, j < i → acc[j]? = l[j]?) :
    Ev (fun k => laws_toStringS.l0 k l acc (i : Int)) l := by
  refine ev_succ ?_
  by_cases h : i < l.length
  · simp (disch := omega) only [laws_toStringS.l0, if_pos, w64, Int.toNat_natCast]
    refine toStringS_l0 l (acc.set i (rdOf ByteArray.empty l i)) (i + 1) (by omega) hl (by simpa using ha) (fun j hj => ?_)
    rw [set_getS _ _ _ _ (by omega)]
    by_cases e : j = i
    · subst e; rw [if_pos rfl, get_rdS l j h]
    · rw [if_neg e]; exact hg j (by omega)
  · simp (disch := omega) only [laws_toStringS.l0, if_neg]
    exact ev_now (eq_of_getS ha fun j hj => hg j (by omega))
 termination_by l.length - i
theorem toStringS_ev (l : List ByteArray) (hl : l.length ≤ 2000000) : Ev (fun k => laws_toStringS.f k l) l := by
  simp (disch := omega) only [laws_toStringS.f, if_pos, Int.toNat_natCast]
  exact toStringS_l0 l _ 0 (by omega) hl (by simp) (fun j hj => by omega)

/-! eqStringS -/
theorem eqStringS_l0 (l : List ByteArray) (i : Nat) (hi : i ≤ l.length) (hl : l.length ≤ 2000000) : Ev (fun k => laws_eqStringS.l0 k l l (i : Int)) true := by
  refine ev_succ ?_
  by_cases h : i < l.length
  · simp (disch := omega) only [laws_eqStringS.l0, if_pos, w64]
    exact eqStringS_l0 l (i + 1) (by omega) hl
  · simp (disch := omega) only [laws_eqStringS.l0, if_neg]
    exact ev_now rfl
 termination_by l.length - i
theorem eqStringS_ev (l : List ByteArray) (hl : l.length ≤ 2000000) : Ev (fun k => laws_eqStringS.f k l l) true := by
  simp (disch := omega) only [laws_eqStringS.f, if_pos]
  exact eqStringS_l0 l 0 (by omega) hl

/-! stands -/
/-- Whether a byte stands in a string. -/
def hasB (s : ByteArray) (c : Int) : Bool := s.data.toList.any (fun b => decide ((b.toNat : Int) = c))
theorem bt_get (s : ByteArray) (i : Nat) (h : i < s.data.toList.length) : bt s (i : Int) = ((s.data.toList[i]).toNat : Int) := by
  have h1 : i < s.size := by rw [Array.length_toList] at h; exact h
  unfold bt
  rw [dif_pos (by simpa using h1)]
  simp [ByteArray.getElem_eq_getElem_data]
theorem stands_l0 (s : ByteArray) (c : Int) (hs : s.size ≤ 2000000) (i : Nat) : i ≤ s.size → Ev (fun k => spec_l1Stands.l0 k s c (i : Int)) ((s.data.toList.drop i).any (fun b => decide ((b.toNat : Int) = c))) := by
  intro hi
  have hz : s.data.toList.length = s.size := Array.length_toList
  refine ev_succ ?_
  simp only [spec_l1Stands.l0]
  by_cases h : i < s.size
  · have hl : i < s.data.toList.length := by omega
    refine ev_ifp (by omega) (ev_ifp (by omega) ?_)
    rw [List.drop_eq_getElem_cons hl, List.any_cons, bt_get s i hl]
    by_cases e : ((s.data.toList[i]).toNat : Int) = c
    · exact ev_ifp e (ev_now (by rw [decide_eq_true e]; rfl))
    · refine ev_ifn e ?_
      rw [w64 (x := (i : Int) + 1) (by omega) (by omega), decide_eq_false e, Bool.false_or]
      exact stands_l0 s c hs (i + 1) (by omega)
  · rw [List.drop_eq_nil_of_le (by omega)]
    exact ev_ifn (by omega) (ev_now rfl)
 termination_by s.size - i
theorem stands_ev (s : ByteArray) (c : Int) (hs : s.size ≤ 2000000) : Ev (fun k => spec_l1Stands.f k s c) (hasB s c) := stands_l0 s c hs 0 (by omega)

/-! LAW FnExactJoinStrings -/
theorem one_bt (a : ByteArray) (h : a.size = 1) : bt a 0 = ((a.data.getD 0 0).toNat : Int) := by
  obtain ⟨⟨l⟩⟩ := a
  match l, h with
  | [b], _ => rfl
theorem contains_has (s a : ByteArray) (h : a.size = 1) : s.data.toList.contains (a.data.getD 0 0) = hasB s (bt a 0) := by
  rw [one_bt a h]
  unfold hasB
  rw [Bool.eq_iff_iff, List.contains_iff_mem, List.any_eq_true]
  constructor
  · intro m; exact ⟨_, m, decide_eq_true rfl⟩
  · rintro ⟨b, m, e⟩
    have e1 := of_decide_eq_true e
    have e2 : b = a.data.getD 0 0 := UInt8.toNat_inj.1 (by omega)
    exact e2 ▸ m
/-- What the reference adds at place i. -/
def add1 (a : ByteArray) (i : Nat) (out x : ByteArray) : ByteArray := if 0 < i then (out ++ a) ++ x else out ++ x
def jg (a : ByteArray) : Nat → ByteArray → List ByteArray → ByteArray
  | _, out, [] => out
  | i, out, x :: r => jg a (i + 1) (add1 a i out x) r
def jb (a : ByteArray) : Nat → ByteArray → List ByteArray → Bool
  | _, _, [] => false
  | i, out, x :: r => hasB x (bt a 0) || decide (4000 < (add1 a i out x).size) || jb a (i + 1) (add1 a i out x) r
def ib (a : ByteArray) : Int → List ByteArray → Bool
  | _, [] => false
  | t, x :: r => decide (4000 < t + x.size) || hasB x (bt a 0) || ib a (t + x.size) r
theorem mem_szs (l : List ByteArray) (x : ByteArray) (h : x ∈ l) : x.size ≤ szs l := by
  induction l with
  | nil => cases h
  | cons y r ih =>
    rw [szs]
    rcases List.mem_cons.1 h with e | e
    · subst e; omega
    · have := ih e; omega
theorem spec_l0 (l : List ByteArray) (a : ByteArray) (ha : a.size = 1) (hl : l.length + szs l ≤ 1048576) (i : Nat) (out : ByteArray) (hi : i ≤ l.length) (ho : out.size ≤ 4000) :
    Ev (fun k => spec_JoinStrings.l0 k l a out (i : Int)) (if jb a i out (l.drop i) = true then ((⟨#[]⟩ : ByteArray), false) else (jg a i out (l.drop i), true)) := by
  refine ev_succ ?_
  simp only [spec_JoinStrings.l0]
  by_cases h : i < l.length
  · have hx : (rdOf ByteArray.empty l (i : Int)).size ≤ 1048576 := by
      have := mem_szs l _ (show rdOf ByteArray.empty l (i : Int) ∈ l by rw [rdS_get l i h]; exact List.getElem_mem h)
      omega
    refine ev_ifp (by omega) (ev_ifp (by omega) (ev_ifp (by omega) ?_))
    refine ev_bind (stands_ev _ _ (by omega)) ?_
    rw [drop_rdS l i h, jb, jg]
    generalize rdOf ByteArray.empty l (i : Int) = x at hx
    cases hb : hasB x (bt a 0) with
    | true => exact ev_ifp rfl (ev_now (by simp))
    | false =>
      refine ev_ifn (by simp) ?_
      rw [w64 (x := (i : Int) + 1) (by omega) (by omega)]
      unfold add1
      by_cases z : 0 < i
      · have s1 : (out ++ a).size = out.size + a.size := ByteArray.size_append
        have s2 : (out ++ a ++ x).size = out.size + a.size + x.size := by rw [ByteArray.size_append, s1]
        simp only [if_pos z]
        refine ev_ifp (by omega) (ev_ifp (by omega) (ev_ifp (by omega) ?_))
        by_cases c : 4000 < (out ++ a ++ x).size
        · exact ev_ifp (by omega) (ev_now (by rw [decide_eq_true c]; simp))
        · refine ev_ifn (by omega) ?_
          rw [decide_eq_false c, Bool.false_or, Bool.false_or]
          exact spec_l0 l a ha hl (i + 1) _ (by omega) (by omega)
      · have s1 : (out ++ x).size = out.size + x.size := ByteArray.size_append
        simp only [if_neg z]
        refine ev_ifn (by omega) (ev_ifp (by omega) ?_)
        by_cases c : 4000 < (out ++ x).size
        · exact ev_ifp (by omega) (ev_now (by rw [decide_eq_true c]; simp))
        · refine ev_ifn (by omega) ?_
          rw [decide_eq_false c, Bool.false_or, Bool.false_or]
          exact spec_l0 l a ha hl (i + 1) _ (by omega) (by omega)
  · rw [List.drop_eq_nil_of_le (by omega)]
    exact ev_ifn (by omega) (ev_now (by simp [jb, jg]))
 termination_by l.length - i
theorem impl_l0 (l : List ByteArray) (a : ByteArray) (ha : a.size = 1) (hl : l.length + szs l ≤ 1048576) (i : Nat) (t : Int) (hi : i ≤ l.length) (h0 : 0 ≤ t) (h1 : t ≤ 1048576 + l.length) (J : ByteArray) (hJ : ib a t (l.drop i) = false → strings_Join.f l a = some J) :
    Ev (fun k => impl_JoinStrings.l0 k l a t l (l.length : Int) (i : Int)) (if ib a t (l.drop i) = true then ((⟨#[]⟩ : ByteArray), false) else (J, true)) := by
  refine ev_succ ?_
  simp only [impl_JoinStrings.l0]
  by_cases h : i < l.length
  · have hx : (rdOf ByteArray.empty l (i : Int)).size ≤ 1048576 := by
      have := mem_szs l _ (show rdOf ByteArray.empty l (i : Int) ∈ l by rw [rdS_get l i h]; exact List.getElem_mem h)
      omega
    refine ev_ifp (by omega) (ev_ifp (by omega) (ev_ifp (by omega) ?_))
    rw [drop_rdS l i h, ib] at hJ ⊢
    generalize rdOf ByteArray.empty l (i : Int) = x at hx hJ
    rw [w64 (x := t + _) (by omega) (by omega), w64 (x := (i : Int) + 1) (by omega) (by omega)]
    by_cases c : 4000 < t + (x.size : Int)
    · exact ev_ifp c (ev_now (by rw [decide_eq_true c]; simp))
    · refine ev_ifn c ?_
      have e : strings_Contains.f x a = some (hasB x (bt a 0)) := by unfold strings_Contains.f; rw [if_pos ha, contains_has x a ha]
      rw [e]
      simp only [Option.bind_some]
      rw [decide_eq_false c, Bool.false_or] at hJ ⊢
      cases hb : hasB x (bt a 0) with
      | true => exact ev_ifp rfl (ev_now (by simp))
      | false =>
        rw [hb, Bool.false_or] at hJ
        rw [Bool.false_or]
        exact ev_ifn (by simp) (impl_l0 l a ha hl (i + 1) _ (by omega) (by omega) (by omega) J hJ)
  · rw [List.drop_eq_nil_of_le (by omega)] at hJ ⊢
    refine ev_ifn (by omega) ?_
    rw [hJ rfl]
    exact ev_now (by simp [ib])
 termination_by l.length - i
theorem jb_eq (a : ByteArray) (ha : a.size = 1) (l : List ByteArray) : ∀ (i : Nat) (out : ByteArray), 0 < i → out.size ≤ 4000 → jb a i out l = (l.any (fun x => hasB x (bt a 0)) || decide (4000 < out.size + l.length + szs l)) := by
  induction l with
  | nil => intro i out _ h; rw [jb, szs]; simp; omega
  | cons x r ih =>
    intro i out hi h
    rw [jb, szs, List.any_cons, List.length_cons]
    have s2 : (add1 a i out x).size = out.size + a.size + x.size := by unfold add1; rw [if_pos hi, ByteArray.size_append, ByteArray.size_append]
    cases hasB x (bt a 0) with
    | true => simp
    | false =>
      rw [Bool.false_or, Bool.false_or]
      by_cases c : 4000 < (add1 a i out x).size
      · rw [decide_eq_true c, decide_eq_true (show 4000 < out.size + (r.length + 1) + (x.size + szs r) by omega)]; simp
      · rw [decide_eq_false c, Bool.false_or, ih (i + 1) _ (by omega) (by omega)]
        congr 1
        rw [decide_eq_decide]; omega
theorem ib_eq (a : ByteArray) (l : List ByteArray) : ∀ (t : Int), 0 ≤ t → t ≤ 4000 → ib a t l = (l.any (fun x => hasB x (bt a 0)) || decide (4000 < t + szs l)) := by
  induction l with
  | nil => intro t _ h; rw [ib, szs]; simp; omega
  | cons x r ih =>
    intro t h0 h
    rw [ib, szs, List.any_cons]
    by_cases c : 4000 < t + (x.size : Int)
    · rw [decide_eq_true c, decide_eq_true (show 4000 < t + ((x.size + szs r : Nat) : Int) by omega)]; simp
    · rw [decide_eq_false c, Bool.false_or, ih _ (by omega) (by omega)]
      cases hasB x (bt a 0) with
      | true => simp
      | false =>
        rw [Bool.false_or, Bool.false_or]
        congr 1
        rw [decide_eq_decide]; omega
theorem bad_eq (a : ByteArray) (ha : a.size = 1) (x : ByteArray) (r : List ByteArray) : jb a 0 (⟨#[]⟩ : ByteArray) (x :: r) = ib a ((x :: r).length - 1 : Int) (x :: r) := by
  rw [jb, ib]
  have s2 : (add1 a 0 (⟨#[]⟩ : ByteArray) x).size = x.size := by unfold add1; rw [if_neg (by omega), ByteArray.size_append]; exact Nat.zero_add _
  have el : (((x :: r).length : Int) - 1) = (r.length : Int) := by rw [List.length_cons]; omega
  rw [el, s2]
  cases hasB x (bt a 0) with
  | true => simp
  | false =>
    rw [Bool.false_or, Bool.or_false]
    by_cases c : 4000 < x.size
    · rw [decide_eq_true c, decide_eq_true (show 4000 < (r.length : Int) + (x.size : Int) by omega)]; simp
    · rw [decide_eq_false c, Bool.false_or, jb_eq a ha r 1 _ (by omega) (by omega), s2]
      by_cases d : 4000 < (r.length : Int) + (x.size : Int)
      · rw [decide_eq_true d, decide_eq_true (show 4000 < x.size + r.length + szs r by omega)]; simp
      · rw [decide_eq_false d, Bool.false_or, ib_eq a r _ (by omega) (by omega)]
        congr 1
        rw [decide_eq_decide]; omega
theorem jg_data (a : ByteArray) (l : List ByteArray) : ∀ (i : Nat) (out : ByteArray), 0 < i → (jg a i out l).data.toList = out.data.toList ++ Lib.joinTail a.data.toList (l.map (·.data.toList)) := by
  induction l with
  | nil => intro i out _; rw [jg]; simp [Lib.joinTail]
  | cons x r ih =>
    intro i out hi
    rw [jg, ih (i + 1) _ (by omega)]
    unfold add1
    rw [if_pos hi]
    simp [Lib.joinTail, ByteArray.data_append, List.append_assoc]
theorem jg_join (a : ByteArray) (x : ByteArray) (r : List ByteArray) : jg a 0 (⟨#[]⟩ : ByteArray) (x :: r) = ⟨(Lib.join ((x :: r).map (·.data.toList)) a.data.toList).toArray⟩ := by
  apply ByteArray.ext
  apply Array.toList_inj.1
  rw [jg, jg_data a r 1 _ (by omega), List.map_cons, Lib.join_cons]
  unfold add1
  rw [if_neg (by omega)]
  simp [ByteArray.data_append]
theorem lens_szs (l : List ByteArray) : Lib.lens (l.map (·.data.toList)) = szs l := by
  induction l with
  | nil => rfl
  | cons x r ih =>
    have e : x.data.toList.length = x.size := Array.length_toList
    rw [szs, ← ih, ← e]
    simp [Lib.lens]
theorem FnExactJoinStrings (l : List ByteArray) (a : ByteArray) (hl : l.length ≤ maxLen) (hs : ∀ s ∈ l, s.size ≤ maxLen) (_ : a.size ≤ maxLen) : ∃ k, laws_FnExactJoinStrings.f k l a = some true := by
  suffices h : Ev (fun k => laws_FnExactJoinStrings.f k l a) true from by
    obtain ⟨n, hn⟩ := h
    exact ⟨n, hn n (Nat.le_refl _)⟩
  unfold laws_FnExactJoinStrings.f
  by_cases c0 : (a.size : Int) > 1048576
  · exact ev_ifp c0 (ev_now rfl)
  refine ev_ifn c0 ?_
  obtain ⟨r, hr, hv⟩ := szStringS_ev l hl hs 1048576 (by omega) (by omega)
  refine ev_bind hr ?_
  rcases hv with rfl | ⟨hv, h0⟩
  · exact ev_ifp (by omega) (ev_now rfl)
  refine ev_ifn (by omega) ?_
  have hz : l.length + szs l ≤ 1048576 := by omega
  obtain ⟨R, h1, h2⟩ : ∃ R : ByteArray × Bool, Ev (fun k => spec_JoinStrings.f k l a) R ∧ Ev (fun k => impl_JoinStrings.f k l a) R := by
    unfold spec_JoinStrings.f impl_JoinStrings.f
    by_cases c1 : (a.size : Int) = 1
    · have ha : a.size = 1 := by omega
      rcases l with _ | ⟨x, r⟩
      · exact ⟨((⟨#[]⟩ : ByteArray), false), ev_ifp c1 (ev_succ (by simp only [spec_JoinStrings.j0]; exact ev_ifp (by simp) (ev_now rfl))), ev_ifp (by simp) (ev_succ (by simp only [impl_JoinStrings.j0]; exact ev_ifp (by simp) (ev_now rfl)))⟩
      · refine ⟨if jb a 0 (⟨#[]⟩ : ByteArray) (x :: r) = true then ((⟨#[]⟩ : ByteArray), false) else (jg a 0 (⟨#[]⟩ : ByteArray) (x :: r), true), ev_ifp c1 (ev_succ ?_), ev_ifn (by rw [List.length_cons]; omega) (ev_succ ?_)⟩
        · simp only [spec_JoinStrings.j0]
          refine ev_ifn (by rw [List.length_cons, beq_iff_eq]; omega) ?_
          exact spec_l0 (x :: r) a ha hz 0 _ (by omega) (Nat.zero_le _)
        · simp only [impl_JoinStrings.j0]
          refine ev_ifn (by rw [c1]; decide) ?_
          have hlen : ((x :: r).length : Int) ≤ 1048576 := by omega
          have hpos : 1 ≤ ((x :: r).length : Int) := by rw [List.length_cons]; omega
          rw [w64 (by omega) (by omega), bad_eq a ha x r, jg_join a x r]
          refine impl_l0 (x :: r) a ha hz 0 _ (by omega) (by omega) (by omega) _ (fun _ => ?_)
          unfold strings_Join.f
          refine if_pos ⟨by rw [List.length_cons]; omega, by omega, ?_⟩
          have el := lens_szs (x :: r)
          rw [List.map_cons] at el ⊢
          rw [Lib.join_length, el, List.length_map]
          have : a.data.toList.length = 1 := Array.length_toList.trans ha
          rw [this]
          rw [List.length_cons] at hz
          omega
    · refine ⟨((⟨#[]⟩ : ByteArray), false), ev_ifn c1 (ev_succ (by simp only [spec_JoinStrings.j0]; exact ev_ifp (by simp) (ev_now rfl))), ?_⟩
      by_cases c2 : (l.length : Int) = 0
      · exact ev_ifp c2 (ev_succ (by simp only [impl_JoinStrings.j0]; exact ev_ifp (by simp) (ev_now rfl)))
      · exact ev_ifn c2 (ev_succ (by simp only [impl_JoinStrings.j0]; exact ev_ifp (by simpa using c1) (ev_now rfl)))
  refine ev_bind (toStringS_ev l (by omega)) (ev_bind h1 (ev_bind (toStringS_ev l (by omega)) (ev_bind h2 (ev_ifp rfl (ev_succ ?_)))))
  simp only [laws_FnExactJoinStrings.j0]
  exact ev_ifn (by simp) (ev_bind (toStringS_ev l (by omega)) (ev_bind (eqStringS_ev l (by omega)) (ev_ifp rfl (ev_now rfl))))

end Go.Proofs.Ytbdbogpmnmcaeaa.Pure
