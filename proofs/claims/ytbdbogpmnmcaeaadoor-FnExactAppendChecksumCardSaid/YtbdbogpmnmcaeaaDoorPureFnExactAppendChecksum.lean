/- The pure statement of the law FnExactAppendChecksum: what the program's function answers is what the reference answers, for all arguments of the kinds of its parameters. -/
import Derived.Test.YtbdbogpmnmcaeaaDoorQFnExactAppendChecksumx2
import Derived.Test.YtbdbogpmnmcaeaaDoorBase
namespace Go.Proofs.YtbdbogpmnmcaeaaDoor.Pure
set_option linter.unusedSimpArgs false
open Go.RowKit Go.Proofs.YtbdbogpmnmcaeaaDoor.PFnExactAppendChecksum Go.Proofs.YtbdbogpmnmcaeaaDoorW.PrintWords Go.Proofs.YtbdbogpmnmcaeaaDoorW.PrintLast Go.Proofs.YtbdbogpmnmcaeaaDoor.Base

/-! num -/
theorem digit_at (d : Nat) (h : d < 10) : (⟨#[48, 49, 50, 51, 52, 53, 54, 55, 56, 57]⟩ : ByteArray).extract d (d + 1) = ⟨#[UInt8.ofNat (48 + d)]⟩ := by
  match d, h with
  | 0, _ => rfl
  | 1, _ => rfl
  | 2, _ => rfl
  | 3, _ => rfl
  | 4, _ => rfl
  | 5, _ => rfl
  | 6, _ => rfl
  | 7, _ => rfl
  | 8, _ => rfl
  | 9, _ => rfl
theorem bytes_app (a b : List UInt8) : (⟨a.toArray⟩ : ByteArray) ++ (⟨b.toArray⟩ : ByteArray) = ⟨(a ++ b).toArray⟩ := by
  apply ByteArray.ext
  simp [ByteArray.data_append]
theorem decDigits_len (u : Nat) : (Lib.decDigits u).length ≤ u + 1 := by
  rw [Lib.decDigits]
  by_cases h : u < 10
  · rw [dif_pos h]; simp
  · rw [dif_neg h]
    have := decDigits_len (u / 10)
    simp only [List.length_append, List.length_singleton]
    omega
 termination_by u
 decreasing_by omega
theorem numN_ev (u : Nat) (hu : u ≤ 1000000000000) : Ev (fun k => spec_l1Num.f k (u : Int)) ⟨(Lib.decDigits u).toArray⟩ := by
  refine ev_succ ?_
  simp only [spec_l1Num.f]
  refine ev_ifn (by omega) ?_
  rw [Lib.decDigits]
  by_cases h : u < 10
  · rw [dif_pos h, w64 (by omega) (by omega)]
    refine ev_ifp (by omega) (ev_ifp (by omega) (ev_ifp (by omega) (ev_ifp (by omega) (ev_now ?_))))
    rw [show ((u : Int) + 1).toNat = u + 1 by omega, Int.toNat_natCast]
    exact digit_at u h
  · rw [dif_neg h]
    refine ev_ifn (by omega) ?_
    have e1 : Int.tdiv (u : Int) 10 = ((u / 10 : Nat) : Int) := rfl
    have e2 : Int.tmod (u : Int) 10 = ((u % 10 : Nat) : Int) := rfl
    have hd : u % 10 < 10 := by omega
    rw [e1, e2, w64 (x := ((u / 10 : Nat) : Int)) (by omega) (by omega), w64 (x := ((u % 10 : Nat) : Int) + 1) (by omega) (by omega)]
    refine ev_bind (numN_ev (u / 10) (by omega)) ?_
    have e3 : ((((u % 10 : Nat) : Int)) + 1).toNat = u % 10 + 1 := by omega
    rw [e3, Int.toNat_natCast, digit_at (u % 10) hd]
    have hl := decDigits_len (u / 10)
    have hs : (⟨(Lib.decDigits (u / 10)).toArray⟩ : ByteArray).size = (Lib.decDigits (u / 10)).length := List.size_toArray
    refine ev_ifp (by omega) (ev_ifp (by omega) (ev_ifp (by omega) (ev_ifp ?_ (ev_now ?_))))
    · have h1 : (⟨#[UInt8.ofNat (48 + u % 10)]⟩ : ByteArray).size = 1 := rfl
      rw [hs, h1]
      omega
    · exact bytes_app _ [UInt8.ofNat (48 + u % 10)]
 termination_by u
 decreasing_by omega
theorem num_ev (n : Int) (h0 : -1000000000000 ≤ n) (h1 : n ≤ 1000000000000) : Ev (fun k => spec_l1Num.f k n) ⟨(Lib.itoa n).toArray⟩ := by
  unfold Lib.itoa
  by_cases c : n < 0
  · rw [if_pos c]
    refine ev_succ ?_
    simp only [spec_l1Num.f]
    refine ev_ifp c ?_
    rw [w64 (by omega) (by omega), show -n = ((n.natAbs : Nat) : Int) by omega]
    refine ev_bind (numN_ev n.natAbs (by omega)) ?_
    have hl := decDigits_len n.natAbs
    have hs : (⟨(Lib.decDigits n.natAbs).toArray⟩ : ByteArray).size = (Lib.decDigits n.natAbs).length := List.size_toArray
    exact ev_ifp (by rw [hs]; omega) (ev_now (bytes_app [45] _))
  · rw [if_neg c]
    have e : n = ((n.toNat : Nat) : Int) := by omega
    have h := numN_ev n.toNat (by omega)
    rw [← e] at h
    exact h

/-! sumGo -/
/-- The checksum of the bytes from place i on, from the state h. -/
def sumGo (s : ByteArray) : Nat → Nat → Int → Int
  | 0, _, h => h
  | d + 1, i, h => sumGo s d (i + 1) (Int.tmod (wrap64 (wrap64 (wrap64 (41 * h) + wrap64 (bt s (i : Int))) + 1)) 999979)

/-! l1Sum -/
theorem l1Sum_l0 (s : ByteArray) (hs : s.size ≤ 2000000) (d : Nat) : ∀ (i : Nat) (h : Int), i + d = s.size → Ev (fun k => spec_l1Sum.l0 k s h (i : Int)) (sumGo s d i h) := by
  induction d with
  | zero =>
    intro i h hi
    refine ev_succ ?_
    simp only [spec_l1Sum.l0]
    exact ev_ifn (by omega) (ev_now rfl)
  | succ d ih =>
    intro i h hi
    refine ev_succ ?_
    simp only [spec_l1Sum.l0]
    rw [w64 (x := (i : Int) + 1) (by omega) (by omega)]
    exact ev_ifp (by omega) (ev_ifp (by omega) (ih (i + 1) _ (by omega)))
theorem l1Sum_ev (s : ByteArray) (hs : s.size ≤ 2000000) : Ev (fun k => spec_l1Sum.f k s) (sumGo s s.size 0 7) := l1Sum_l0 s hs s.size 0 7 (by omega)

/-! checksum -/
theorem checksum_l0 (s : ByteArray) (hs : s.size ≤ 2000000) (d : Nat) : ∀ (i : Nat) (h : Int), i + d = s.size → Ev (fun k => impl_checksum.l0 k s h (s.size : Int) (i : Int)) (sumGo s d i h) := by
  induction d with
  | zero =>
    intro i h hi
    refine ev_succ ?_
    simp only [impl_checksum.l0]
    exact ev_ifn (by omega) (ev_now rfl)
  | succ d ih =>
    intro i h hi
    refine ev_succ ?_
    simp only [impl_checksum.l0]
    rw [w64 (x := (i : Int) + 1) (by omega) (by omega)]
    exact ev_ifp (by omega) (ev_ifp (by omega) (ev_ifp (by omega) (ih (i + 1) _ (by omega))))
theorem checksum_ev (s : ByteArray) (hs : s.size ≤ 2000000) : Ev (fun k => impl_checksum.f k s) (sumGo s s.size 0 7) := checksum_l0 s hs s.size 0 7 (by omega)

/-! seal -/
theorem sumGo_bd (s : ByteArray) (d : Nat) : ∀ (i : Nat) (h : Int), -999979 < h → h < 999979 → -999979 < sumGo s d i h ∧ sumGo s d i h < 999979 := by
  induction d with
  | zero => intro i h a b; exact ⟨a, b⟩
  | succ d ih =>
    intro i h _ _
    rw [sumGo]
    exact ih _ _ (Int.lt_tmod_of_pos _ (by omega)) (Int.tmod_lt_of_pos _ (by omega))
/-- A text with its checksum behind it. -/
def sealB (s : ByteArray) : ByteArray := (s ++ (⟨#[35]⟩ : ByteArray)) ++ (⟨(Lib.itoa (sumGo s s.size 0 7)).toArray⟩ : ByteArray)
theorem itoa_len (n : Int) : (Lib.itoa n).length ≤ n.natAbs + 2 := by
  unfold Lib.itoa
  by_cases c : n < 0
  · rw [if_pos c]
    have := decDigits_len n.natAbs
    simp only [List.length_cons]
    omega
  · rw [if_neg c]
    have := decDigits_len n.toNat
    omega
theorem itoa_size (n : Int) : (⟨(Lib.itoa n).toArray⟩ : ByteArray).size = (Lib.itoa n).length := List.size_toArray
theorem seal_ev (s : ByteArray) (hs : s.size ≤ 2000000) : Ev (fun k => spec_l1Seal.f k s) (sealB s) := by
  unfold spec_l1Seal.f sealB
  have hb := sumGo_bd s s.size 0 7 (by omega) (by omega)
  refine ev_ifp (by omega) (ev_bind (l1Sum_ev s hs) (ev_bind (num_ev _ (by omega) (by omega)) (ev_ifp ?_ (ev_now rfl))))
  have h1 : (⟨#[35]⟩ : ByteArray).size = 1 := rfl
  have hl := itoa_len (sumGo s s.size 0 7)
  rw [ByteArray.size_append, h1, itoa_size]
  omega

/-! stands -/
/-- Whether a byte stands in a string. -/
def hasB (s : ByteArray) (c : Int) : Bool := s.data.toList.any (fun b => decide ((b.toNat : Int) = c))
theorem bt_get (s : ByteArray) (i : Nat) (h : i < s.data.toList.length) : bt s (i : Int) = ((s.data.toList[i]).toNat : Int) := by
  have h1 : i < s.size := by rw [Array.length_toList] at h; exact h
  unfold bt
  rw [dif_pos (by simpa using h1)]
  simp [ByteArray.getElem_eq_getElem_data]
theorem stands_l0 (s : ByteArray) (c : Int) (hs : s.size ≤ 2000000) (i : Nat) : i ≤ s.size → Ev (fun k => spec_l1Stands.l0 k s c (i : Int)) ((s.data.toList.drop i).any (fun b => decide ((b.toNat : Int) = c))) := by
  intro hi
  have hz : s.data.toList.length = s.size := Array.length_toList
  refine ev_succ ?_
  simp only [spec_l1Stands.l0]
  by_cases h : i < s.size
  · have hl : i < s.data.toList.length := by omega
    refine ev_ifp (by omega) (ev_ifp (by omega) ?_)
    rw [List.drop_eq_getElem_cons hl, List.any_cons, bt_get s i hl]
    by_cases e : ((s.data.toList[i]).toNat : Int) = c
    · exact ev_ifp e (ev_now (by rw [decide_eq_true e]; rfl))
    · refine ev_ifn e ?_
      rw [w64 (x := (i : Int) + 1) (by omega) (by omega), decide_eq_false e, Bool.false_or]
      exact stands_l0 s c hs (i + 1) (by omega)
  · rw [List.drop_eq_nil_of_le (by omega)]
    exact ev_ifn (by omega) (ev_now rfl)
 termination_by s.size - i
theorem stands_ev (s : ByteArray) (c : Int) (hs : s.size ≤ 2000000) : Ev (fun k => spec_l1Stands.f k s c) (hasB s c) := stands_l0 s c hs 0 (by omega)

/-! has -/
theorem one_bt (a : ByteArray) (h : a.size = 1) : bt a 0 = ((a.data.getD 0 0).toNat : Int) := by
  obtain ⟨⟨l⟩⟩ := a
  match l, h with
  | [b], _ => rfl
theorem contains_has (s a : ByteArray) (h : a.size = 1) : s.data.toList.contains (a.data.getD 0 0) = hasB s (bt a 0) := by
  rw [one_bt a h]
  unfold hasB
  rw [Bool.eq_iff_iff, List.contains_iff_mem, List.any_eq_true]
  constructor
  · intro m; exact ⟨_, m, decide_eq_true rfl⟩
  · rintro ⟨b, m, e⟩
    have e1 := of_decide_eq_true e
    have e2 : b = a.data.getD 0 0 := UInt8.toNat_inj.1 (by omega)
    exact e2 ▸ m

/-! appendSum -/
/-- What AppendChecksum answers. -/
def addSum (s : ByteArray) : ByteArray × Bool :=
  if 4000 < s.size then ((⟨#[]⟩ : ByteArray), false) else if hasB s 35 = true then ((⟨#[]⟩ : ByteArray), false) else if 4000 < (sealB s).size then ((⟨#[]⟩ : ByteArray), false) else (sealB s, true)
theorem implAppend_ev (s : ByteArray) (hs : s.size ≤ 2000000) : Ev (fun k => impl_AppendChecksum.f k s) (addSum s) := by
  unfold impl_AppendChecksum.f addSum
  by_cases c1 : 4000 < s.size
  · rw [if_pos c1]
    exact ev_ifp (by omega) (ev_succ (by simp only [impl_AppendChecksum.j0]; exact ev_ifp (by simp) (ev_now rfl)))
  rw [if_neg c1]
  refine ev_ifn (by omega) ?_
  have e : strings_Contains.f s (⟨#[35]⟩ : ByteArray) = some (hasB s 35) := by
    unfold strings_Contains.f
    rw [if_pos (show (⟨#[35]⟩ : ByteArray).size = 1 from rfl), contains_has s (⟨#[35]⟩ : ByteArray) rfl]
    rfl
  rw [e]
  simp only [Option.bind_some]
  refine ev_succ ?_
  simp only [impl_AppendChecksum.j0]
  by_cases c2 : hasB s 35 = true
  · rw [if_pos c2]
    exact ev_ifp c2 (ev_now rfl)
  rw [if_neg c2]
  refine ev_ifn c2 (ev_ifp (by omega) (ev_bind (checksum_ev s hs) ?_))
  have hb := sumGo_bd s s.size 0 7 (by omega) (by omega)
  rw [strconv_Itoa_49.f, if_pos (by omega)]
  simp only [Option.bind_some]
  have h1 : (⟨#[35]⟩ : ByteArray).size = 1 := rfl
  have hl := itoa_len (sumGo s s.size 0 7)
  refine ev_ifp (by rw [ByteArray.size_append, h1, itoa_size]; omega) ?_
  by_cases c3 : 4000 < (sealB s).size
  · rw [if_pos c3]
    exact ev_ifp (by unfold sealB at c3; omega) (ev_now rfl)
  · rw [if_neg c3]
    exact ev_ifn (by unfold sealB at c3; omega) (ev_now rfl)

/-! LAW FnExactAppendChecksum -/
theorem FnExactAppendChecksum (s : ByteArray) (_ : s.size ≤ maxLen) : ∃ k, laws_FnExactAppendChecksum.f k s = some true := by
  suffices h : Ev (fun k => laws_FnExactAppendChecksum.f k s) true from by
    obtain ⟨m, hm⟩ := h
    exact ⟨m, hm m (Nat.le_refl _)⟩
  unfold laws_FnExactAppendChecksum.f
  by_cases c0 : (s.size : Int) > 1048576
  · exact ev_ifp c0 (ev_now rfl)
  refine ev_ifn c0 ?_
  have hs : s.size ≤ 2000000 := by omega
  have h1 : Ev (fun k => spec_AppendChecksum.f k s) (addSum s) := by
    unfold spec_AppendChecksum.f addSum
    by_cases c1 : 4000 < s.size
    · rw [if_pos c1]
      exact ev_ifp (by omega) (ev_now rfl)
    rw [if_neg c1]
    refine ev_ifn (by omega) (ev_bind (stands_ev s 35 hs) ?_)
    by_cases c2 : hasB s 35 = true
    · rw [if_pos c2]
      exact ev_ifp c2 (ev_now rfl)
    rw [if_neg c2]
    refine ev_ifn c2 (ev_bind (seal_ev s hs) ?_)
    by_cases c3 : 4000 < (sealB s).size
    · rw [if_pos c3]
      exact ev_ifp (by omega) (ev_now rfl)
    · rw [if_neg c3]
      exact ev_ifn (by omega) (ev_bind (seal_ev s hs) (ev_now rfl))
  exact ev_bind h1 (ev_bind (implAppend_ev s hs) (ev_ifp (by simp) (ev_ifn (by simp) (ev_now rfl))))

end Go.Proofs.YtbdbogpmnmcaeaaDoor.Pure
