/- The pure statement of the law FnExactVerifyChecksum: what the program's function answers is what the reference answers, for all arguments of the kinds of its parameters. -/
import Derived.Test.YtbdbogpmnmcaeaaDoorQFnExactVerifyChecksumx2
import Derived.Test.YtbdbogpmnmcaeaaDoorBase
namespace Go.Proofs.YtbdbogpmnmcaeaaDoor.Pure
set_option linter.unusedSimpArgs false
open Go.RowKit Go.Proofs.YtbdbogpmnmcaeaaDoor.PFnExactVerifyChecksum Go.Proofs.YtbdbogpmnmcaeaaDoorW.PrintWords Go.Proofs.YtbdbogpmnmcaeaaDoorW.PrintLast Go.Proofs.YtbdbogpmnmcaeaaDoor.Base

/-! parts -/
/-- The parts of a list between a byte. -/
def parts (c : UInt8) : List UInt8 → List (List UInt8)
  | [] => [[]]
  | b :: l => if b = c then [] :: parts c l else (match parts c l with
    | [] => [[b]]
    | p :: r => (b :: p) :: r)
theorem parts_ne (c : UInt8) (l : List UInt8) : ∃ p r, parts c l = p :: r := by
  cases l with
  | nil => exact ⟨_, _, rfl⟩
  | cons b l =>
    rw [parts]
    by_cases h : b = c
    · rw [if_pos h]; exact ⟨_, _, rfl⟩
    · rw [if_neg h]
      cases parts c l with
      | nil => exact ⟨_, _, rfl⟩
      | cons p r => exact ⟨_, _, rfl⟩
theorem parts_cons_ne (c b : UInt8) (l p : List UInt8) (r : List (List UInt8)) (h : b ≠ c) (e : parts c l = p :: r) : parts c (b :: l) = (b :: p) :: r := by
  rw [parts, if_neg h, e]
theorem parts_len (c : UInt8) (l : List UInt8) : (parts c l).length ≤ l.length + 1 := by
  induction l with
  | nil => simp [parts]
  | cons b l ih =>
    obtain ⟨p, r, e⟩ := parts_ne c l
    by_cases h : b = c
    · rw [parts, if_pos h]; simp only [List.length_cons]; omega
    · rw [parts_cons_ne c b l p r h e]; rw [e] at ih; simp only [List.length_cons] at ih ⊢; omega
theorem idx_ge (c : UInt8) (l : List UInt8) : -1 ≤ Lib.indexByte l c := Lib.indexByte_ge l c
theorem parts_miss (c : UInt8) (l : List UInt8) (h : Lib.indexByte l c = -1) : parts c l = [l] := by
  induction l with
  | nil => rfl
  | cons b l ih =>
    rw [Lib.indexByte] at h
    by_cases e : b = c
    · subst e; simp at h
    · have e1 : (b == c) = false := beq_eq_false_iff_ne.2 e
      rw [e1, if_neg (by decide)] at h
      have g := idx_ge c l
      by_cases f : Lib.indexByte l c = -1
      · exact parts_cons_ne c b l l [] e (ih f)
      · rw [if_neg (by simpa using f)] at h; omega
theorem parts_hit (c : UInt8) (l : List UInt8) : ∀ j : Nat, Lib.indexByte l c = j → j < l.length ∧ parts c l = l.take j :: parts c (l.drop (j + 1)) := by
  induction l with
  | nil => intro j h; rw [Lib.indexByte] at h; omega
  | cons b l ih =>
    intro j h
    rw [Lib.indexByte] at h
    by_cases e : b = c
    · have e1 : (b == c) = true := beq_iff_eq.2 e
      rw [e1, if_pos rfl] at h
      obtain rfl : j = 0 := by omega
      rw [parts, if_pos e]
      exact ⟨by simp, rfl⟩
    · have e1 : (b == c) = false := beq_eq_false_iff_ne.2 e
      rw [e1, if_neg (by decide)] at h
      have g := idx_ge c l
      by_cases f : Lib.indexByte l c = -1
      · rw [if_pos (by simpa using f)] at h; omega
      · rw [if_neg (by simpa using f)] at h
        obtain ⟨i, rfl⟩ : ∃ i, j = i + 1 := ⟨j - 1, by omega⟩
        obtain ⟨h1, h2⟩ := ih i (by omega)
        refine ⟨by rw [List.length_cons]; omega, ?_⟩
        rw [parts_cons_ne c b l _ _ e h2]
        rfl
/-- Some bytes ahead of the first part. -/
def glue (a : List UInt8) : List (List UInt8) → List (List UInt8)
  | [] => [a]
  | p :: r => (a ++ p) :: r
def mk8 (l : List UInt8) : ByteArray := ⟨l.toArray⟩
theorem glue_nil (c : UInt8) (l : List UInt8) : glue [] (parts c l) = parts c l := by
  obtain ⟨p, r, e⟩ := parts_ne c l
  rw [e]; rfl
theorem extract_mk (s : ByteArray) (a b : Nat) (_ : a ≤ b) : s.extract a b = mk8 ((s.data.toList.drop a).take (b - a)) := by
  apply ByteArray.ext
  apply Array.toList_inj.1
  rw [ByteArray.data_extract, Array.toList_extract]
  simp [mk8, List.extract_eq_take_drop]

/-! hasB -/
/-- Whether a byte stands in a string. -/
def hasB (s : ByteArray) (c : Int) : Bool := s.data.toList.any (fun b => decide ((b.toNat : Int) = c))
theorem bt_get (s : ByteArray) (i : Nat) (h : i < s.data.toList.length) : bt s (i : Int) = ((s.data.toList[i]).toNat : Int) := by
  have h1 : i < s.size := by rw [Array.length_toList] at h; exact h
  unfold bt
  rw [dif_pos (by simpa using h1)]
  simp [ByteArray.getElem_eq_getElem_data]

/-! l1Split -/
theorem split_l0 (s : ByteArray) (hs : s.size ≤ 2000000) (c : UInt8) (fr i : Nat) (out : List ByteArray) (h1 : fr ≤ i) (h2 : i ≤ s.size) (ho : out.length ≤ i) :
    Ev (fun k => spec_l1Split.l0 k s (c.toNat : Int) out (fr : Int) (i : Int)) (out ++ (glue ((s.data.toList.drop fr).take (i - fr)) (parts c (s.data.toList.drop i))).map mk8) := by
  have hz : s.data.toList.length = s.size := Array.length_toList
  refine ev_succ ?_
  simp only [spec_l1Split.l0]
  by_cases h : i < s.size
  · have hl : i < s.data.toList.length := by omega
    refine ev_ifp (by omega) (ev_ifp (by omega) ?_)
    rw [w64 (x := (i : Int) + 1) (by omega) (by omega), List.drop_eq_getElem_cons hl]
    have hb := bt_get s i hl
    rw [hb]
    generalize hx : s.data.toList[i] = x
    by_cases e : x = c
    · refine ev_ifp (by rw [e]) (ev_ifp (by omega) (ev_ifp (by omega) (ev_ifp (by omega) (ev_ifp (by omega) ?_))))
      rw [parts, if_pos e, Int.toNat_natCast, Int.toNat_natCast]
      refine ev_to (split_l0 s hs c (i + 1) (i + 1) _ (by omega) (by omega) (by simp only [List.length_append, List.length_singleton]; omega)) ?_
      rw [Nat.sub_self, List.take_zero, glue_nil, extract_mk s fr i h1]
      simp [glue]
    · refine ev_ifn (fun z => e (UInt8.toNat_inj.1 (by omega))) ?_
      refine ev_to (split_l0 s hs c fr (i + 1) out (by omega) (by omega) (by omega)) ?_
      obtain ⟨p, r, er⟩ := parts_ne c (s.data.toList.drop (i + 1))
      rw [parts_cons_ne c x _ p r e er, er]
      have e3 : (s.data.toList.drop fr).take (i + 1 - fr) = (s.data.toList.drop fr).take (i - fr) ++ [x] := by
        rw [show i + 1 - fr = (i - fr) + 1 by omega, List.take_add_one]
        congr 1
        rw [List.getElem?_drop, show fr + (i - fr) = i by omega, List.getElem?_eq_getElem hl, hx]
        rfl
      rw [glue, glue, e3, List.append_assoc]
      rfl
  · have e : i = s.size := by omega
    refine ev_ifn (by omega) (ev_ifp (by omega) (ev_ifp (by omega) (ev_ifp (by omega) (ev_now ?_))))
    rw [List.drop_eq_nil_of_le (show s.data.toList.length ≤ i by omega), parts, glue, Int.toNat_natCast, extract_mk s fr s.size (by omega), e]
    simp
 termination_by s.size - i
theorem l1Split_ev (s : ByteArray) (hs : s.size ≤ 2000000) (c : UInt8) : Ev (fun k => spec_l1Split.f k s (c.toNat : Int)) ((parts c s.data.toList).map mk8) := by
  refine ev_to (split_l0 s hs c 0 0 [] (by omega) (by omega) (by simp)) ?_
  rw [List.nil_append, List.drop_zero, Nat.sub_self, List.take_zero, glue_nil]

/-! num -/
theorem digit_at (d : Nat) (h : d < 10) : (⟨#[48, 49, 50, 51, 52, 53, 54, 55, 56, 57]⟩ : ByteArray).extract d (d + 1) = ⟨#[UInt8.ofNat (48 + d)]⟩ := by
  match d, h with
  | 0, _ => rfl
  | 1, _ => rfl
  | 2, _ => rfl
  | 3, _ => rfl
  | 4, _ => rfl
  | 5, _ => rfl
  | 6, _ => rfl
  | 7, _ => rfl
  | 8, _ => rfl
  | 9, _ => rfl
theorem bytes_app (a b : List UInt8) : (⟨a.toArray⟩ : ByteArray) ++ (⟨b.toArray⟩ : ByteArray) = ⟨(a ++ b).toArray⟩ := by
  apply ByteArray.ext
  simp [ByteArray.data_append]
theorem decDigits_len (u : Nat) : (Lib.decDigits u).length ≤ u + 1 := by
  rw [Lib.decDigits]
  by_cases h : u < 10
  · rw [dif_pos h]; simp
  · rw [dif_neg h]
    have := decDigits_len (u / 10)
    simp only [List.length_append, List.length_singleton]
    omega
 termination_by u
 decreasing_by omega
theorem numN_ev (u : Nat) (hu : u ≤ 1000000000000) : Ev (fun k => spec_l1Num.f k (u : Int)) ⟨(Lib.decDigits u).toArray⟩ := by
  refine ev_succ ?_
  simp only [spec_l1Num.f]
  refine ev_ifn (by omega) ?_
  rw [Lib.decDigits]
  by_cases h : u < 10
  · rw [dif_pos h, w64 (by omega) (by omega)]
    refine ev_ifp (by omega) (ev_ifp (by omega) (ev_ifp (by omega) (ev_ifp (by omega) (ev_now ?_))))
    rw [show ((u : Int) + 1).toNat = u + 1 by omega, Int.toNat_natCast]
    exact digit_at u h
  · rw [dif_neg h]
    refine ev_ifn (by omega) ?_
    have e1 : Int.tdiv (u : Int) 10 = ((u / 10 : Nat) : Int) := rfl
    have e2 : Int.tmod (u : Int) 10 = ((u % 10 : Nat) : Int) := rfl
    have hd : u % 10 < 10 := by omega
    rw [e1, e2, w64 (x := ((u / 10 : Nat) : Int)) (by omega) (by omega), w64 (x := ((u % 10 : Nat) : Int) + 1) (by omega) (by omega)]
    refine ev_bind (numN_ev (u / 10) (by omega)) ?_
    have e3 : ((((u % 10 : Nat) : Int)) + 1).toNat = u % 10 + 1 := by omega
    rw [e3, Int.toNat_natCast, digit_at (u % 10) hd]
    have hl := decDigits_len (u / 10)
    have hs : (⟨(Lib.decDigits (u / 10)).toArray⟩ : ByteArray).size = (Lib.decDigits (u / 10)).length := List.size_toArray
    refine ev_ifp (by omega) (ev_ifp (by omega) (ev_ifp (by omega) (ev_ifp ?_ (ev_now ?_))))
    · have h1 : (⟨#[UInt8.ofNat (48 + u % 10)]⟩ : ByteArray).size = 1 := rfl
      rw [hs, h1]
      omega
    · exact bytes_app _ [UInt8.ofNat (48 + u % 10)]
 termination_by u
 decreasing_by omega
theorem num_ev (n : Int) (h0 : -1000000000000 ≤ n) (h1 : n ≤ 1000000000000) : Ev (fun k => spec_l1Num.f k n) ⟨(Lib.itoa n).toArray⟩ := by
  unfold Lib.itoa
  by_cases c : n < 0
  · rw [if_pos c]
    refine ev_succ ?_
    simp only [spec_l1Num.f]
    refine ev_ifp c ?_
    rw [w64 (by omega) (by omega), show -n = ((n.natAbs : Nat) : Int) by omega]
    refine ev_bind (numN_ev n.natAbs (by omega)) ?_
    have hl := decDigits_len n.natAbs
    have hs : (⟨(Lib.decDigits n.natAbs).toArray⟩ : ByteArray).size = (Lib.decDigits n.natAbs).length := List.size_toArray
    exact ev_ifp (by rw [hs]; omega) (ev_now (bytes_app [45] _))
  · rw [if_neg c]
    have e : n = ((n.toNat : Nat) : Int) := by omega
    have h := numN_ev n.toNat (by omega)
    rw [← e] at h
    exact h

/-! sumGo -/
/-- The checksum of the bytes from place i on, from the state h. -/
def sumGo (s : ByteArray) : Nat → Nat → Int → Int
  | 0, _, h => h
  | d + 1, i, h => sumGo s d (i + 1) (Int.tmod (wrap64 (wrap64 (wrap64 (41 * h) + wrap64 (bt s (i : Int))) + 1)) 999979)

/-! l1Sum -/
theorem l1Sum_l0 (s : ByteArray) (hs : s.size ≤ 2000000) (d : Nat) : ∀ (i : Nat) (h : Int), i + d = s.size → Ev (fun k => spec_l1Sum.l0 k s h (i : Int)) (sumGo s d i h) := by
  induction d with
  | zero =>
    intro i h hi
    refine ev_succ ?_
    simp only [spec_l1Sum.l0]
    exact ev_ifn (by omega) (ev_now rfl)
  | succ d ih =>
    intro i h hi
    refine ev_succ ?_
    simp only [spec_l1Sum.l0]
    rw [w64 (x := (i : Int) + 1) (by omega) (by omega)]
    exact ev_ifp (by omega) (ev_ifp (by omega) (ih (i + 1) _ (by omega)))
theorem l1Sum_ev (s : ByteArray) (hs : s.size ≤ 2000000) : Ev (fun k => spec_l1Sum.f k s) (sumGo s s.size 0 7) := l1Sum_l0 s hs s.size 0 7 (by omega)

/-! checksum -/
theorem checksum_l0 (s : ByteArray) (hs : s.size ≤ 2000000) (d : Nat) : ∀ (i : Nat) (h : Int), i + d = s.size → Ev (fun k => impl_checksum.l0 k s h (s.size : Int) (i : Int)) (sumGo s d i h) := by
  induction d with
  | zero =>
    intro i h hi
    refine ev_succ ?_
    simp only [impl_checksum.l0]
    exact ev_ifn (by omega) (ev_now rfl)
  | succ d ih =>
    intro i h hi
    refine ev_succ ?_
    simp only [impl_checksum.l0]
    rw [w64 (x := (i : Int) + 1) (by omega) (by omega)]
    exact ev_ifp (by omega) (ev_ifp (by omega) (ev_ifp (by omega) (ih (i + 1) _ (by omega))))
theorem checksum_ev (s : ByteArray) (hs : s.size ≤ 2000000) : Ev (fun k => impl_checksum.f k s) (sumGo s s.size 0 7) := checksum_l0 s hs s.size 0 7 (by omega)

/-! seal -/
theorem sumGo_bd (s : ByteArray) (d : Nat) : ∀ (i : Nat) (h : Int), -999979 < h → h < 999979 → -999979 < sumGo s d i h ∧ sumGo s d i h < 999979 := by
  induction d with
  | zero => intro i h a b; exact ⟨a, b⟩
  | succ d ih =>
    intro i h _ _
    rw [sumGo]
    exact ih _ _ (Int.lt_tmod_of_pos _ (by omega)) (Int.tmod_lt_of_pos _ (by omega))
/-- A text with its checksum behind it. -/
def sealB (s : ByteArray) : ByteArray := (s ++ (⟨#[35]⟩ : ByteArray)) ++ (⟨(Lib.itoa (sumGo s s.size 0 7)).toArray⟩ : ByteArray)
theorem itoa_len (n : Int) : (Lib.itoa n).length ≤ n.natAbs + 2 := by
  unfold Lib.itoa
  by_cases c : n < 0
  · rw [if_pos c]
    have := decDigits_len n.natAbs
    simp only [List.length_cons]
    omega
  · rw [if_neg c]
    have := decDigits_len n.toNat
    omega
theorem itoa_size (n : Int) : (⟨(Lib.itoa n).toArray⟩ : ByteArray).size = (Lib.itoa n).length := List.size_toArray
theorem seal_ev (s : ByteArray) (hs : s.size ≤ 2000000) : Ev (fun k => spec_l1Seal.f k s) (sealB s) := by
  unfold spec_l1Seal.f sealB
  have hb := sumGo_bd s s.size 0 7 (by omega) (by omega)
  refine ev_ifp (by omega) (ev_bind (l1Sum_ev s hs) (ev_bind (num_ev _ (by omega) (by omega)) (ev_ifp ?_ (ev_now rfl))))
  have h1 : (⟨#[35]⟩ : ByteArray).size = 1 := rfl
  have hl := itoa_len (sumGo s s.size 0 7)
  rw [ByteArray.size_append, h1, itoa_size]
  omega

/-! has -/
theorem one_bt (a : ByteArray) (h : a.size = 1) : bt a 0 = ((a.data.getD 0 0).toNat : Int) := by
  obtain ⟨⟨l⟩⟩ := a
  match l, h with
  | [b], _ => rfl
theorem contains_has (s a : ByteArray) (h : a.size = 1) : s.data.toList.contains (a.data.getD 0 0) = hasB s (bt a 0) := by
  rw [one_bt a h]
  unfold hasB
  rw [Bool.eq_iff_iff, List.contains_iff_mem, List.any_eq_true]
  constructor
  · intro m; exact ⟨_, m, decide_eq_true rfl⟩
  · rintro ⟨b, m, e⟩
    have e1 := of_decide_eq_true e
    have e2 : b = a.data.getD 0 0 := UInt8.toNat_inj.1 (by omega)
    exact e2 ▸ m

/-! appendSum -/
/-- What AppendChecksum answers. -/
def addSum (s : ByteArray) : ByteArray × Bool :=
  if 4000 < s.size then ((⟨#[]⟩ : ByteArray), false) else if hasB s 35 = true then ((⟨#[]⟩ : ByteArray), false) else if 4000 < (sealB s).size then ((⟨#[]⟩ : ByteArray), false) else (sealB s, true)
theorem implAppend_ev (s : ByteArray) (hs : s.size ≤ 2000000) : Ev (fun k => impl_AppendChecksum.f k s) (addSum s) := by
  unfold impl_AppendChecksum.f addSum
  by_cases c1 : 4000 < s.size
  · rw [if_pos c1]
    exact ev_ifp (by omega) (ev_succ (by simp only [impl_AppendChecksum.j0]; exact ev_ifp (by simp) (ev_now rfl)))
  rw [if_neg c1]
  refine ev_ifn (by omega) ?_
  have e : strings_Contains.f s (⟨#[35]⟩ : ByteArray) = some (hasB s 35) := by
    unfold strings_Contains.f
    rw [if_pos (show (⟨#[35]⟩ : ByteArray).size = 1 from rfl), contains_has s (⟨#[35]⟩ : ByteArray) rfl]
    rfl
  rw [e]
  simp only [Option.bind_some]
  refine ev_succ ?_
  simp only [impl_AppendChecksum.j0]
  by_cases c2 : hasB s 35 = true
  · rw [if_pos c2]
    exact ev_ifp c2 (ev_now rfl)
  rw [if_neg c2]
  refine ev_ifn c2 (ev_ifp (by omega) (ev_bind (checksum_ev s hs) ?_))
  have hb := sumGo_bd s s.size 0 7 (by omega) (by omega)
  rw [strconv_Itoa_49.f, if_pos (by omega)]
  simp only [Option.bind_some]
  have h1 : (⟨#[35]⟩ : ByteArray).size = 1 := rfl
  have hl := itoa_len (sumGo s s.size 0 7)
  refine ev_ifp (by rw [ByteArray.size_append, h1, itoa_size]; omega) ?_
  by_cases c3 : 4000 < (sealB s).size
  · rw [if_pos c3]
    exact ev_ifp (by unfold sealB at c3; omega) (ev_now rfl)
  · rw [if_neg c3]
    exact ev_ifn (by unfold sealB at c3; omega) (ev_now rfl)

/-! LAW FnExactVerifyChecksum -/
theorem head_cut (c : UInt8) (l : List UInt8) : ∃ r, parts c l = (Lib.cut l [c]).1 :: r := by
  unfold Lib.cut
  rw [Lib.index_one]
  have g := idx_ge c l
  by_cases h : 0 ≤ Lib.indexByte l c
  · rw [if_pos h]
    obtain ⟨_, e⟩ := parts_hit c l (Lib.indexByte l c).toNat (by omega)
    exact ⟨_, e⟩
  · rw [if_neg h]
    exact ⟨_, parts_miss c l (by omega)⟩
theorem head_free (c : UInt8) (l : List UInt8) : ∀ p r, parts c l = p :: r → p.any (fun b => decide ((b.toNat : Int) = (c.toNat : Int))) = false ∧ p.length ≤ l.length := by
  induction l with
  | nil => intro p r h; rw [parts] at h; injection h with h1 h2; subst h1; exact ⟨rfl, Nat.le_refl _⟩
  | cons b l ih =>
    intro p r h
    by_cases e : b = c
    · rw [parts, if_pos e] at h
      injection h with h1 h2
      subst h1
      exact ⟨rfl, Nat.zero_le _⟩
    · obtain ⟨p1, r1, e1⟩ := parts_ne c l
      rw [parts_cons_ne c b l p1 r1 e e1] at h
      injection h with h1 h2
      subst h1
      obtain ⟨i1, i2⟩ := ih p1 r1 e1
      refine ⟨?_, by simp only [List.length_cons]; omega⟩
      rw [List.any_cons, i1, Bool.or_false]
      exact decide_eq_false (fun z => e (UInt8.toNat_inj.1 (by omega)))
theorem FnExactVerifyChecksum (s : ByteArray) (_ : s.size ≤ maxLen) : ∃ k, laws_FnExactVerifyChecksum.f k s = some true := by
  suffices h : Ev (fun k => laws_FnExactVerifyChecksum.f k s) true from by
    obtain ⟨m, hm⟩ := h
    exact ⟨m, hm m (Nat.le_refl _)⟩
  unfold laws_FnExactVerifyChecksum.f
  by_cases c0 : (s.size : Int) > 1048576
  · exact ev_ifp c0 (ev_now rfl)
  refine ev_ifn c0 ?_
  have hs : s.size ≤ 2000000 := by omega
  have hz : s.data.toList.length = s.size := Array.length_toList
  obtain ⟨r, er⟩ := head_cut 35 s.data.toList
  obtain ⟨hf, hl⟩ := head_free 35 s.data.toList _ _ er
  generalize ht : mk8 (Lib.cut s.data.toList [35]).1 = t
  have htd : t.data.toList = (Lib.cut s.data.toList [35]).1 := by rw [← ht]; rfl
  have hts : t.size ≤ s.size := by
    have : t.size = t.data.toList.length := Array.length_toList.symm
    rw [this, htd]; omega
  have hno : hasB t 35 = false := by unfold hasB; rw [htd]; exact hf
  obtain ⟨R, h1, h2⟩ : ∃ R : ByteArray × Bool, Ev (fun k => spec_VerifyChecksum.f k s) R ∧ Ev (fun k => impl_VerifyChecksum.f k s) R := by
    have hi : ∀ R : ByteArray × Bool, (if (addSum t).2 = true then (if (addSum t).1.toList = s.toList then (t, true) else ((⟨#[]⟩ : ByteArray), false)) else ((⟨#[]⟩ : ByteArray), false)) = R → Ev (fun k => impl_VerifyChecksum.f k s) R := by
      intro R hR
      unfold impl_VerifyChecksum.f strings_Cut.f
      rw [if_pos (by omega)]
      simp only [Option.bind_some]
      have e : (⟨(Lib.cut s.data.toList (⟨#[35]⟩ : ByteArray).data.toList).1.toArray⟩ : ByteArray) = t := ht
      rw [e]
      refine ev_bind (implAppend_ev t (by omega)) ?_
      by_cases a1 : (addSum t).2 = true
      · rw [if_pos a1] at hR
        refine ev_ifp a1 ?_
        by_cases a2 : (addSum t).1.toList = s.toList
        · rw [if_pos a2] at hR; exact ev_ifp a2 (ev_now hR)
        · rw [if_neg a2] at hR; exact ev_ifn a2 (ev_now hR)
      · rw [if_neg a1] at hR; exact ev_ifn a1 (ev_now hR)
    have hadd : addSum t = if 4000 < t.size then ((⟨#[]⟩ : ByteArray), false) else if 4000 < (sealB t).size then ((⟨#[]⟩ : ByteArray), false) else (sealB t, true) := by
      unfold addSum
      rw [hno]
      simp
    have heq : ∀ x : ByteArray, x.toList = s.toList → x.size = s.size := by
      intro x h
      rw [ByteArray.toList_eq, ByteArray.toList_eq] at h
      have h2 := congrArg List.length h
      rw [Array.length_toList, Array.length_toList] at h2
      exact h2
    have hv : (if (addSum t).2 = true then (if (addSum t).1.toList = s.toList then (t, true) else ((⟨#[]⟩ : ByteArray), false)) else ((⟨#[]⟩ : ByteArray), false)) = (if 4000 < t.size ∨ 4000 < (sealB t).size then ((⟨#[]⟩ : ByteArray), false) else if (sealB t).toList = s.toList then (t, true) else ((⟨#[]⟩ : ByteArray), false)) := by
      rw [hadd]
      by_cases b1 : 4000 < t.size
      · simp [b1]
      · by_cases b2 : 4000 < (sealB t).size
        · simp [b1, b2]
        · simp [b1, b2]
    rw [hv] at hi
    unfold spec_VerifyChecksum.f
    by_cases c1 : 4000 < s.size
    · refine ⟨((⟨#[]⟩ : ByteArray), false), ev_ifp (by omega) (ev_now rfl), hi _ ?_⟩
      by_cases b1 : 4000 < t.size ∨ 4000 < (sealB t).size
      · rw [if_pos b1]
      · rw [if_neg b1, if_neg (fun h => by have := heq (sealB t) h; omega)]
    · have e0 : rdOf ByteArray.empty ((parts 35 s.data.toList).map mk8) 0 = t := by rw [er, ← ht]; rfl
      have hpos : 0 < (((parts 35 s.data.toList).map mk8).length : Int) := by rw [er]; simp
      by_cases b2 : (sealB t).toList = s.toList
      · have := heq (sealB t) b2
        refine ⟨(t, true), ev_ifn (by omega) (ev_bind (l1Split_ev s hs 35) (ev_ifp hpos ?_)), hi _ ?_⟩
        · rw [e0]
          exact ev_bind (seal_ev t (by omega)) (ev_ifp b2 (ev_now rfl))
        · rw [if_neg (by omega), if_pos b2]
      · refine ⟨((⟨#[]⟩ : ByteArray), false), ev_ifn (by omega) (ev_bind (l1Split_ev s hs 35) (ev_ifp hpos ?_)), hi _ ?_⟩
        · rw [e0]
          exact ev_bind (seal_ev t (by omega)) (ev_ifn b2 (ev_now rfl))
        · rw [if_neg b2]
          by_cases b1 : 4000 < t.size ∨ 4000 < (sealB t).size
          · rw [if_pos b1]
          · rw [if_neg b1]
  exact ev_bind h1 (ev_bind h2 (ev_ifp (by simp) (ev_ifn (by simp) (ev_now rfl))))

end Go.Proofs.YtbdbogpmnmcaeaaDoor.Pure
