/- The pure statement of the law FnStrings: what the program's function answers is what the reference answers, for all arguments of the kinds of its parameters. -/
import Derived.Test.YtbdbogpmnmcaeaaDoorQFnStringsx4
import Derived.Test.YtbdbogpmnmcaeaaDoorBase
namespace Go.Proofs.YtbdbogpmnmcaeaaDoor.Pure
set_option linter.unusedSimpArgs false
open Go.RowKit Go.Proofs.YtbdbogpmnmcaeaaDoor.PFnStrings Go.Proofs.YtbdbogpmnmcaeaaDoorW.PrintWords Go.Proofs.YtbdbogpmnmcaeaaDoorW.PrintLast Go.Proofs.YtbdbogpmnmcaeaaDoor.Base

/-! parts -/
/-- The parts of a list between a byte. -/
def parts (c : UInt8) : List UInt8 → List (List UInt8)
  | [] => [[]]
  | b :: l => if b = c then [] :: parts c l else (match parts c l with
    | [] => [[b]]
    | p :: r => (b :: p) :: r)
theorem parts_ne (c : UInt8) (l : List UInt8) : ∃ p r, parts c l = p :: r := by
  cases l with
  | nil => exact ⟨_, _, rfl⟩
  | cons b l =>
    rw [parts]
    by_cases h : b = c
    · rw [if_pos h]; exact ⟨_, _, rfl⟩
    · rw [if_neg h]
      cases parts c l with
      | nil => exact ⟨_, _, rfl⟩
      | cons p r => exact ⟨_, _, rfl⟩
theorem parts_cons_ne (c b : UInt8) (l p : List UInt8) (r : List (List UInt8)) (h : b ≠ c) (e : parts c l = p :: r) : parts c (b :: l) = (b :: p) :: r := by
  rw [parts, if_neg h, e]
theorem parts_len (c : UInt8) (l : List UInt8) : (parts c l).length ≤ l.length + 1 := by
  induction l with
  | nil => simp [parts]
  | cons b l ih =>
    obtain ⟨p, r, e⟩ := parts_ne c l
    by_cases h : b = c
    · rw [parts, if_pos h]; simp only [List.length_cons]; omega
    · rw [parts_cons_ne c b l p r h e]; rw [e] at ih; simp only [List.length_cons] at ih ⊢; omega
theorem idx_ge (c : UInt8) (l : List UInt8) : -1 ≤ Lib.indexByte l c := Lib.indexByte_ge l c
theorem parts_miss (c : UInt8) (l : List UInt8) (h : Lib.indexByte l c = -1) : parts c l = [l] := by
  induction l with
  | nil => rfl
  | cons b l ih =>
    rw [Lib.indexByte] at h
    by_cases e : b = c
    · subst e; simp at h
    · have e1 : (b == c) = false := beq_eq_false_iff_ne.2 e
      rw [e1, if_neg (by decide)] at h
      have g := idx_ge c l
      by_cases f : Lib.indexByte l c = -1
      · exact parts_cons_ne c b l l [] e (ih f)
      · rw [if_neg (by simpa using f)] at h; omega
theorem parts_hit (c : UInt8) (l : List UInt8) : ∀ j : Nat, Lib.indexByte l c = j → j < l.length ∧ parts c l = l.take j :: parts c (l.drop (j + 1)) := by
  induction l with
  | nil => intro j h; rw [Lib.indexByte] at h; omega
  | cons b l ih =>
    intro j h
    rw [Lib.indexByte] at h
    by_cases e : b = c
    · have e1 : (b == c) = true := beq_iff_eq.2 e
      rw [e1, if_pos rfl] at h
      obtain rfl : j = 0 := by omega
      rw [parts, if_pos e]
      exact ⟨by simp, rfl⟩
    · have e1 : (b == c) = false := beq_eq_false_iff_ne.2 e
      rw [e1, if_neg (by decide)] at h
      have g := idx_ge c l
      by_cases f : Lib.indexByte l c = -1
      · rw [if_pos (by simpa using f)] at h; omega
      · rw [if_neg (by simpa using f)] at h
        obtain ⟨i, rfl⟩ : ∃ i, j = i + 1 := ⟨j - 1, by omega⟩
        obtain ⟨h1, h2⟩ := ih i (by omega)
        refine ⟨by rw [List.length_cons]; omega, ?_⟩
        rw [parts_cons_ne c b l _ _ e h2]
        rfl
/-- Some bytes ahead of the first part. -/
def glue (a : List UInt8) : List (List UInt8) → List (List UInt8)
  | [] => [a]
  | p :: r => (a ++ p) :: r
def mk8 (l : List UInt8) : ByteArray := ⟨l.toArray⟩
theorem glue_nil (c : UInt8) (l : List UInt8) : glue [] (parts c l) = parts c l := by
  obtain ⟨p, r, e⟩ := parts_ne c l
  rw [e]; rfl
theorem extract_mk (s : ByteArray) (a b : Nat) (_ : a ≤ b) : s.extract a b = mk8 ((s.data.toList.drop a).take (b - a)) := by
  apply ByteArray.ext
  apply Array.toList_inj.1
  rw [ByteArray.data_extract, Array.toList_extract]
  simp [mk8, List.extract_eq_take_drop]

/-! num -/
theorem digit_at (d : Nat) (h : d < 10) : (⟨#[48, 49, 50, 51, 52, 53, 54, 55, 56, 57]⟩ : ByteArray).extract d (d + 1) = ⟨#[UInt8.ofNat (48 + d)]⟩ := by
  match d, h with
  | 0, _ => rfl
  | 1, _ => rfl
  | 2, _ => rfl
  | 3, _ => rfl
  | 4, _ => rfl
  | 5, _ => rfl
  | 6, _ => rfl
  | 7, _ => rfl
  | 8, _ => rfl
  | 9, _ => rfl
theorem bytes_app (a b : List UInt8) : (⟨a.toArray⟩ : ByteArray) ++ (⟨b.toArray⟩ : ByteArray) = ⟨(a ++ b).toArray⟩ := by
  apply ByteArray.ext
  simp [ByteArray.data_append]
theorem decDigits_len (u : Nat) : (Lib.decDigits u).length ≤ u + 1 := by
  rw [Lib.decDigits]
  by_cases h : u < 10
  · rw [dif_pos h]; simp
  · rw [dif_neg h]
    have := decDigits_len (u / 10)
    simp only [List.length_append, List.length_singleton]
    omega
 termination_by u
 decreasing_by omega
theorem numN_ev (u : Nat) (hu : u ≤ 1000000000000) : Ev (fun k => spec_l1Num.f k (u : Int)) ⟨(Lib.decDigits u).toArray⟩ := by
  refine ev_succ ?_
  simp only [spec_l1Num.f]
  refine ev_ifn (by omega) ?_
  rw [Lib.decDigits]
  by_cases h : u < 10
  · rw [dif_pos h, w64 (by omega) (by omega)]
    refine ev_ifp (by omega) (ev_ifp (by omega) (ev_ifp (by omega) (ev_ifp (by omega) (ev_now ?_))))
    rw [show ((u : Int) + 1).toNat = u + 1 by omega, Int.toNat_natCast]
    exact digit_at u h
  · rw [dif_neg h]
    refine ev_ifn (by omega) ?_
    have e1 : Int.tdiv (u : Int) 10 = ((u / 10 : Nat) : Int) := rfl
    have e2 : Int.tmod (u : Int) 10 = ((u % 10 : Nat) : Int) := rfl
    have hd : u % 10 < 10 := by omega
    rw [e1, e2, w64 (x := ((u / 10 : Nat) : Int)) (by omega) (by omega), w64 (x := ((u % 10 : Nat) : Int) + 1) (by omega) (by omega)]
    refine ev_bind (numN_ev (u / 10) (by omega)) ?_
    have e3 : ((((u % 10 : Nat) : Int)) + 1).toNat = u % 10 + 1 := by omega
    rw [e3, Int.toNat_natCast, digit_at (u % 10) hd]
    have hl := decDigits_len (u / 10)
    have hs : (⟨(Lib.decDigits (u / 10)).toArray⟩ : ByteArray).size = (Lib.decDigits (u / 10)).length := List.size_toArray
    refine ev_ifp (by omega) (ev_ifp (by omega) (ev_ifp (by omega) (ev_ifp ?_ (ev_now ?_))))
    · have h1 : (⟨#[UInt8.ofNat (48 + u % 10)]⟩ : ByteArray).size = 1 := rfl
      rw [hs, h1]
      omega
    · exact bytes_app _ [UInt8.ofNat (48 + u % 10)]
 termination_by u
 decreasing_by omega
theorem num_ev (n : Int) (h0 : -1000000000000 ≤ n) (h1 : n ≤ 1000000000000) : Ev (fun k => spec_l1Num.f k n) ⟨(Lib.itoa n).toArray⟩ := by
  unfold Lib.itoa
  by_cases c : n < 0
  · rw [if_pos c]
    refine ev_succ ?_
    simp only [spec_l1Num.f]
    refine ev_ifp c ?_
    rw [w64 (by omega) (by omega), show -n = ((n.natAbs : Nat) : Int) by omega]
    refine ev_bind (numN_ev n.natAbs (by omega)) ?_
    have hl := decDigits_len n.natAbs
    have hs : (⟨(Lib.decDigits n.natAbs).toArray⟩ : ByteArray).size = (Lib.decDigits n.natAbs).length := List.size_toArray
    exact ev_ifp (by rw [hs]; omega) (ev_now (bytes_app [45] _))
  · rw [if_neg c]
    have e : n = ((n.toNat : Nat) : Int) := by omega
    have h := numN_ev n.toNat (by omega)
    rw [← e] at h
    exact h

/-! seal0 -/
theorem itoa_len (n : Int) : (Lib.itoa n).length ≤ n.natAbs + 2 := by
  unfold Lib.itoa
  by_cases c : n < 0
  · rw [if_pos c]
    have := decDigits_len n.natAbs
    simp only [List.length_cons]
    omega
  · rw [if_neg c]
    have := decDigits_len n.toNat
    omega

/-! sumGo -/
/-- The checksum of the bytes from place i on, from the state h. -/
def sumGo (s : ByteArray) : Nat → Nat → Int → Int
  | 0, _, h => h
  | d + 1, i, h => sumGo s d (i + 1) (Int.tmod (wrap64 (wrap64 (wrap64 (41 * h) + wrap64 (bt s (i : Int))) + 1)) 999979)

/-! l1Sum -/
theorem l1Sum_l0 (s : ByteArray) (hs : s.size ≤ 2000000) (d : Nat) : ∀ (i : Nat) (h : Int), i + d = s.size → Ev (fun k => spec_l1Sum.l0 k s h (i : Int)) (sumGo s d i h) := by
  induction d with
  | zero =>
    intro i h hi
    refine ev_succ ?_
    simp only [spec_l1Sum.l0]
    exact ev_ifn (by omega) (ev_now rfl)
  | succ d ih =>
    intro i h hi
    refine ev_succ ?_
    simp only [spec_l1Sum.l0]
    rw [w64 (x := (i : Int) + 1) (by omega) (by omega)]
    exact ev_ifp (by omega) (ev_ifp (by omega) (ih (i + 1) _ (by omega)))
theorem l1Sum_ev (s : ByteArray) (hs : s.size ≤ 2000000) : Ev (fun k => spec_l1Sum.f k s) (sumGo s s.size 0 7) := l1Sum_l0 s hs s.size 0 7 (by omega)

/-! checksum -/
theorem checksum_l0 (s : ByteArray) (hs : s.size ≤ 2000000) (d : Nat) : ∀ (i : Nat) (h : Int), i + d = s.size → Ev (fun k => impl_checksum.l0 k s h (s.size : Int) (i : Int)) (sumGo s d i h) := by
  induction d with
  | zero =>
    intro i h hi
    refine ev_succ ?_
    simp only [impl_checksum.l0]
    exact ev_ifn (by omega) (ev_now rfl)
  | succ d ih =>
    intro i h hi
    refine ev_succ ?_
    simp only [impl_checksum.l0]
    rw [w64 (x := (i : Int) + 1) (by omega) (by omega)]
    exact ev_ifp (by omega) (ev_ifp (by omega) (ev_ifp (by omega) (ih (i + 1) _ (by omega))))
theorem checksum_ev (s : ByteArray) (hs : s.size ≤ 2000000) : Ev (fun k => impl_checksum.f k s) (sumGo s s.size 0 7) := checksum_l0 s hs s.size 0 7 (by omega)

/-! seal -/
theorem sumGo_bd (s : ByteArray) (d : Nat) : ∀ (i : Nat) (h : Int), -999979 < h → h < 999979 → -999979 < sumGo s d i h ∧ sumGo s d i h < 999979 := by
  induction d with
  | zero => intro i h a b; exact ⟨a, b⟩
  | succ d ih =>
    intro i h _ _
    rw [sumGo]
    exact ih _ _ (Int.lt_tmod_of_pos _ (by omega)) (Int.tmod_lt_of_pos _ (by omega))
/-- A text with its checksum behind it. -/
def sealB (s : ByteArray) : ByteArray := (s ++ (⟨#[35]⟩ : ByteArray)) ++ (⟨(Lib.itoa (sumGo s s.size 0 7)).toArray⟩ : ByteArray)
theorem itoa_size (n : Int) : (⟨(Lib.itoa n).toArray⟩ : ByteArray).size = (Lib.itoa n).length := List.size_toArray
theorem seal_ev (s : ByteArray) (hs : s.size ≤ 2000000) : Ev (fun k => spec_l1Seal.f k s) (sealB s) := by
  unfold spec_l1Seal.f sealB
  have hb := sumGo_bd s s.size 0 7 (by omega) (by omega)
  refine ev_ifp (by omega) (ev_bind (l1Sum_ev s hs) (ev_bind (num_ev _ (by omega) (by omega)) (ev_ifp ?_ (ev_now rfl))))
  have h1 : (⟨#[35]⟩ : ByteArray).size = 1 := rfl
  have hl := itoa_len (sumGo s s.size 0 7)
  rw [ByteArray.size_append, h1, itoa_size]
  omega

/-! hasB -/
/-- Whether a byte stands in a string. -/
def hasB (s : ByteArray) (c : Int) : Bool := s.data.toList.any (fun b => decide ((b.toNat : Int) = c))
theorem bt_get (s : ByteArray) (i : Nat) (h : i < s.data.toList.length) : bt s (i : Int) = ((s.data.toList[i]).toNat : Int) := by
  have h1 : i < s.size := by rw [Array.length_toList] at h; exact h
  unfold bt
  rw [dif_pos (by simpa using h1)]
  simp [ByteArray.getElem_eq_getElem_data]

/-! has -/
theorem one_bt (a : ByteArray) (h : a.size = 1) : bt a 0 = ((a.data.getD 0 0).toNat : Int) := by
  obtain ⟨⟨l⟩⟩ := a
  match l, h with
  | [b], _ => rfl
theorem contains_has (s a : ByteArray) (h : a.size = 1) : s.data.toList.contains (a.data.getD 0 0) = hasB s (bt a 0) := by
  rw [one_bt a h]
  unfold hasB
  rw [Bool.eq_iff_iff, List.contains_iff_mem, List.any_eq_true]
  constructor
  · intro m; exact ⟨_, m, decide_eq_true rfl⟩
  · rintro ⟨b, m, e⟩
    have e1 := of_decide_eq_true e
    have e2 : b = a.data.getD 0 0 := UInt8.toNat_inj.1 (by omega)
    exact e2 ▸ m

/-! appendSum -/
/-- What AppendChecksum answers. -/
def addSum (s : ByteArray) : ByteArray × Bool :=
  if 4000 < s.size then ((⟨#[]⟩ : ByteArray), false) else if hasB s 35 = true then ((⟨#[]⟩ : ByteArray), false) else if 4000 < (sealB s).size then ((⟨#[]⟩ : ByteArray), false) else (sealB s, true)
theorem implAppend_ev (s : ByteArray) (hs : s.size ≤ 2000000) : Ev (fun k => impl_AppendChecksum.f k s) (addSum s) := by
  unfold impl_AppendChecksum.f addSum
  by_cases c1 : 4000 < s.size
  · rw [if_pos c1]
    exact ev_ifp (by omega) (ev_succ (by simp only [impl_AppendChecksum.j0]; exact ev_ifp (by simp) (ev_now rfl)))
  rw [if_neg c1]
  refine ev_ifn (by omega) ?_
  have e : strings_Contains.f s (⟨#[35]⟩ : ByteArray) = some (hasB s 35) := by
    unfold strings_Contains.f
    rw [if_pos (show (⟨#[35]⟩ : ByteArray).size = 1 from rfl), contains_has s (⟨#[35]⟩ : ByteArray) rfl]
    rfl
  rw [e]
  simp only [Option.bind_some]
  refine ev_succ ?_
  simp only [impl_AppendChecksum.j0]
  by_cases c2 : hasB s 35 = true
  · rw [if_pos c2]
    exact ev_ifp c2 (ev_now rfl)
  rw [if_neg c2]
  refine ev_ifn c2 (ev_ifp (by omega) (ev_bind (checksum_ev s hs) ?_))
  have hb := sumGo_bd s s.size 0 7 (by omega) (by omega)
  rw [strconv_Itoa_49.f, if_pos (by omega)]
  simp only [Option.bind_some]
  have h1 : (⟨#[35]⟩ : ByteArray).size = 1 := rfl
  have hl := itoa_len (sumGo s s.size 0 7)
  refine ev_ifp (by rw [ByteArray.size_append, h1, itoa_size]; omega) ?_
  by_cases c3 : 4000 < (sealB s).size
  · rw [if_pos c3]
    exact ev_ifp (by unfold sealB at c3; omega) (ev_now rfl)
  · rw [if_neg c3]
    exact ev_ifn (by unfold sealB at c3; omega) (ev_now rfl)

/-! verify -/
theorem head_cut' (c : UInt8) (l : List UInt8) : ∃ r, parts c l = (Lib.cut l [c]).1 :: r := by
  unfold Lib.cut
  rw [Lib.index_one]
  have g := idx_ge c l
  by_cases h : 0 ≤ Lib.indexByte l c
  · rw [if_pos h]
    obtain ⟨_, e⟩ := parts_hit c l (Lib.indexByte l c).toNat (by omega)
    exact ⟨_, e⟩
  · rw [if_neg h]
    exact ⟨_, parts_miss c l (by omega)⟩
theorem parts_head_len (c : UInt8) (l : List UInt8) : ∀ p r, parts c l = p :: r → p.length ≤ l.length := by
  induction l with
  | nil => intro p r h; rw [parts] at h; injection h with h1 h2; subst h1; exact Nat.le_refl _
  | cons b l ih =>
    intro p r h
    by_cases e : b = c
    · rw [parts, if_pos e] at h
      injection h with h1 h2
      subst h1
      exact Nat.zero_le _
    · obtain ⟨p1, r1, e1⟩ := parts_ne c l
      rw [parts_cons_ne c b l p1 r1 e e1] at h
      injection h with h1 h2
      subst h1
      have i2 := ih p1 r1 e1
      simp only [List.length_cons]; omega
/-- What VerifyChecksum answers. -/
def verB (s : ByteArray) : ByteArray × Bool :=
  if (addSum (mk8 (Lib.cut s.data.toList [35]).1)).2 = true then (if (addSum (mk8 (Lib.cut s.data.toList [35]).1)).1.toList = s.toList then (mk8 (Lib.cut s.data.toList [35]).1, true) else ((⟨#[]⟩ : ByteArray), false)) else ((⟨#[]⟩ : ByteArray), false)
theorem ver_ev (s : ByteArray) (hs : s.size ≤ 2000000) : Ev (fun k => impl_VerifyChecksum.f k s) (verB s) := by
  have hz : s.data.toList.length = s.size := Array.length_toList
  obtain ⟨r, er⟩ := head_cut' 35 s.data.toList
  have hl := parts_head_len 35 s.data.toList _ _ er
  unfold verB
  generalize ht : mk8 (Lib.cut s.data.toList [35]).1 = t
  have hts : t.size ≤ s.size := by
    have h1 : t.size = t.data.toList.length := Array.length_toList.symm
    have h2 : t.data.toList = (Lib.cut s.data.toList [35]).1 := by rw [← ht]; rfl
    rw [h1, h2]; omega
  unfold impl_VerifyChecksum.f strings_Cut.f
  rw [if_pos (by omega)]
  simp only [Option.bind_some]
  have e : (⟨(Lib.cut s.data.toList (⟨#[35]⟩ : ByteArray).data.toList).1.toArray⟩ : ByteArray) = t := ht
  rw [e]
  refine ev_bind (implAppend_ev t (by omega)) ?_
  by_cases a1 : (addSum t).2 = true
  · by_cases a2 : (addSum t).1.toList = s.toList
    · exact ev_to (r := (t, true)) (ev_ifp a1 (ev_ifp a2 (ev_now rfl))) (by rw [if_pos a1, if_pos a2])
    · exact ev_to (r := ((⟨#[]⟩ : ByteArray), false)) (ev_ifp a1 (ev_ifn a2 (ev_now rfl))) (by rw [if_pos a1, if_neg a2])
  · exact ev_to (r := ((⟨#[]⟩ : ByteArray), false)) (ev_ifn a1 (ev_now rfl)) (by rw [if_neg a1])

/-! sumL -/
/-- The checksum, over a list of bytes. -/
def sumL : List UInt8 → Int → Int
  | [], h => h
  | b :: l, h => sumL l ((41 * h + (b.toNat : Int) + 1) % 999979)
theorem sumL_bd (l : List UInt8) : ∀ h : Int, 0 ≤ h → h < 999979 → 0 ≤ sumL l h ∧ sumL l h < 999979 := by
  induction l with
  | nil => intro h a b; exact ⟨a, b⟩
  | cons b l ih => intro h _ _; exact ih _ (by omega) (by omega)
theorem sumGo_L (s : ByteArray) (d : Nat) : ∀ (i : Nat) (h : Int), i + d = s.size → 0 ≤ h → h < 999979 → sumGo s d i h = sumL (s.data.toList.drop i) h := by
  have hz : s.data.toList.length = s.size := Array.length_toList
  induction d with
  | zero => intro i h hi _ _; rw [sumGo, List.drop_eq_nil_of_le (by omega)]; rfl
  | succ d ih =>
    intro i h hi h0 h1
    have hl : i < s.data.toList.length := by omega
    rw [sumGo, List.drop_eq_getElem_cons hl, sumL, bt_get s i hl]
    generalize s.data.toList[i] = b
    have hb : b.toNat < 256 := b.toNat_lt
    rw [w64 (x := 41 * h) (by omega) (by omega), w64 (x := (b.toNat : Int)) (by omega) (by omega), w64 (x := 41 * h + (b.toNat : Int)) (by omega) (by omega), w64 (by omega) (by omega), Int.tmod_eq_emod_of_nonneg (by omega)]
    exact ih (i + 1) _ (by omega) (by omega) (by omega)
theorem sum_L (s : ByteArray) : sumGo s s.size 0 7 = sumL s.data.toList 7 := by
  rw [sumGo_L s s.size 0 7 (by omega) (by omega) (by omega), List.drop_zero]
theorem sumL_inj (l : List UInt8) : ∀ g h : Int, 0 ≤ g → g < 999979 → 0 ≤ h → h < 999979 → sumL l g = sumL l h → g = h := by
  induction l with
  | nil => intro g h _ _ _ _ e; exact e
  | cons b l ih =>
    intro g h g0 g1 h0 h1 e
    have e1 := ih _ _ (by omega) (by omega) (by omega) (by omega) e
    omega
theorem sumL_set (l : List UInt8) : ∀ (k : Nat) (c : UInt8) (h : Int) (hk : k < l.length), 0 ≤ h → h < 999979 → l[k] ≠ c → sumL (l.set k c) h ≠ sumL l h := by
  induction l with
  | nil => intro k c h hk; simp at hk
  | cons b l ih =>
    intro k c h hk h0 h1 hne e
    cases k with
    | zero =>
      have e1 := sumL_inj l _ _ (by omega) (by omega) (by omega) (by omega) e
      have hb : b.toNat < 256 := b.toNat_lt
      have hc : c.toNat < 256 := c.toNat_lt
      have hne' : b.toNat ≠ c.toNat := fun z => hne (UInt8.toNat_inj.1 z)
      omega
    | succ k => exact ih k c _ (by simpa using hk) (by omega) (by omega) (by simpa using hne) e

/-! oneChange -/
theorem parts_pre (c : UInt8) (X A : List UInt8) (h : c ∉ X) : parts c (X ++ c :: A) = X :: parts c A := by
  induction X with
  | nil => rw [List.nil_append, parts, if_pos rfl]
  | cons b X ih =>
    have h1 : b ≠ c := fun e => h (by rw [e]; exact List.mem_cons_self)
    exact parts_cons_ne c b _ _ _ h1 (ih (fun m => h (List.mem_cons_of_mem _ m)))
/-- Where the byte c stands in X c A, that holds no other c. -/
theorem only_at (c : UInt8) (X A : List UInt8) (hX : c ∉ X) (hA : c ∉ A) (i : Nat) : (X ++ c :: A)[i]? = some c ↔ i = X.length := by
  constructor
  · intro h
    rcases Nat.lt_trichotomy i X.length with hi | hi | hi
    · rw [List.getElem?_append_left hi] at h
      exact absurd (List.mem_of_getElem? h) hX
    · exact hi
    · rw [List.getElem?_append_right (by omega)] at h
      obtain ⟨j, hj⟩ : ∃ j, i - X.length = j + 1 := ⟨i - X.length - 1, by omega⟩
      rw [hj, List.getElem?_cons_succ] at h
      exact absurd (List.mem_of_getElem? h) hA
  · rintro rfl
    rw [List.getElem?_append_right (by omega), Nat.sub_self]
    rfl
theorem one_change (c b : UInt8) (X A T B : List UInt8) (hX : c ∉ X) (hA : c ∉ A) (hT : c ∉ T) (hB : c ∉ B) (k : Nat) (hk : k < (X ++ c :: A).length) (hne : (X ++ c :: A)[k] ≠ b) (e : T ++ c :: B = (X ++ c :: A).set k b) :
    (∃ h : k < X.length, X[k] ≠ b ∧ T = X.set k b ∧ A = B) ∨ (T = X ∧ A ≠ B) := by
  have g : ∀ i, i ≠ k → (T ++ c :: B)[i]? = (X ++ c :: A)[i]? := fun i hi => by rw [e, List.getElem?_set, if_neg (Ne.symm hi)]
  have hlen : T.length = X.length := by
    rcases Decidable.em (T.length = X.length) with h | h
    · exact h
    · exfalso
      have e1 : k = X.length := by
        rcases Decidable.em (X.length = k) with h1 | h1
        · exact h1.symm
        · have := g X.length h1
          rw [(only_at c X A hX hA X.length).2 rfl] at this
          exact absurd ((only_at c T B hT hB X.length).1 this) (Ne.symm h)
      have e2 : k = T.length := by
        rcases Decidable.em (T.length = k) with h1 | h1
        · exact h1.symm
        · have := g T.length h1
          rw [(only_at c T B hT hB T.length).2 rfl] at this
          exact absurd ((only_at c X A hX hA T.length).1 this.symm) h
      omega
  by_cases c1 : k < X.length
  · left
    rw [List.set_append_left _ _ c1] at e
    have e2 := List.append_inj e (by rw [List.length_set]; exact hlen)
    refine ⟨c1, ?_, e2.1, ?_⟩
    · intro z; exact hne (by rw [List.getElem_append_left c1]; exact z)
    · injection e2.2 with _ e3; exact e3.symm
  · right
    rw [List.set_append_right _ _ (by omega)] at e
    have e2 := List.append_inj e hlen
    refine ⟨e2.1, fun hAB => ?_⟩
    rw [hAB] at e2
    have e3 := e2.2
    have hk2 : k - X.length < (c :: A).length := by rw [List.length_append] at hk; omega
    have hne2 : (c :: A)[k - X.length] ≠ b := by
      intro z; exact hne (by rw [List.getElem_append_right (by omega)]; exact z)
    apply hne2
    have e4 : (c :: A)[k - X.length]? = ((c :: A).set (k - X.length) b)[k - X.length]? := by rw [hAB, ← e3]
    rw [List.getElem?_set_self hk2, List.getElem?_eq_getElem hk2] at e4
    exact Option.some.inj e4

/-! l1In -/
theorem l1In_eq (a b c : Int) : spec_l1In.f a b c = some (decide (b ≤ a ∧ a ≤ c)) := by
  unfold spec_l1In.f
  by_cases h : a ≥ b
  · rw [if_pos h]; congr 1; rw [decide_eq_decide]; omega
  · rw [if_neg h]; congr 1; symm; rw [decide_eq_false_iff_not]; omega

/-! readNum -/
theorem decFrom_append (l : List UInt8) (b : UInt8) : ∀ acc, Lib.decFrom acc (l ++ [b]) = (Lib.decFrom acc l).bind fun m => (Lib.digitVal b).map fun d => m * 10 + d := by
  induction l with
  | nil =>
    intro acc
    simp only [List.nil_append, Lib.decFrom, Option.bind_some]
    cases Lib.digitVal b <;> rfl
  | cons c l ih =>
    intro acc
    simp only [List.cons_append, Lib.decFrom]
    cases Lib.digitVal c with
    | none => rfl
    | some d => exact ih _
theorem digit_val (d : Nat) (h : d < 10) : Lib.digitVal (UInt8.ofNat (48 + d)) = some d := by
  match d, h with
  | 0, _ => rfl
  | 1, _ => rfl
  | 2, _ => rfl
  | 3, _ => rfl
  | 4, _ => rfl
  | 5, _ => rfl
  | 6, _ => rfl
  | 7, _ => rfl
  | 8, _ => rfl
  | 9, _ => rfl
theorem dec_digits (u : Nat) : Lib.decFrom 0 (Lib.decDigits u) = some u := by
  rw [Lib.decDigits]
  by_cases h : u < 10
  · rw [dif_pos h]
    simp only [Lib.decFrom, digit_val u h]
    simp
  · rw [dif_neg h, decFrom_append, dec_digits (u / 10), Option.bind_some, digit_val (u % 10) (by omega)]
    simp only [Option.map_some]
    congr 1
    omega
 termination_by u
 decreasing_by omega
theorem dec_ne (u : Nat) : ∃ b r, Lib.decDigits u = b :: r ∧ b.toNat ≠ 45 ∧ b.toNat ≠ 43 := by
  have h := dec_digits u
  cases e : Lib.decDigits u with
  | nil =>
    rw [Lib.decDigits] at e
    by_cases z : u < 10
    · rw [dif_pos z] at e; simp at e
    · rw [dif_neg z] at e; simp at e
  | cons b r =>
    refine ⟨b, r, rfl, ?_⟩
    rw [e] at h
    simp only [Lib.decFrom, Lib.digitVal] at h
    by_cases z : 48 ≤ b.toNat ∧ b.toNat ≤ 57
    · omega
    · rw [if_neg z] at h; cases h
theorem dec_short : ∀ (k u : Nat), u < 10 ^ (k + 1) → (Lib.decDigits u).length ≤ k + 1
  | 0, u, h => by
    rw [Lib.decDigits, dif_pos (by simpa using h)]
    simp
  | k + 1, u, h => by
    rw [Lib.decDigits]
    by_cases z : u < 10
    · rw [dif_pos z]; simp
    · rw [dif_neg z, List.length_append, List.length_singleton]
      have := dec_short k (u / 10) (by rw [Nat.pow_succ] at h; omega)
      omega
theorem atoi_itoa (n : Int) : Lib.atoi (Lib.itoa n) = some n := by
  unfold Lib.itoa
  by_cases c : n < 0
  · obtain ⟨b, r, e, _⟩ := dec_ne n.natAbs
    have h := dec_digits n.natAbs
    rw [if_pos c, Lib.atoi, if_pos (by rfl), Lib.decNat, e]
    rw [e] at h
    simp only [List.isEmpty_cons, Bool.false_eq_true, if_false, h, Option.map_some]
    congr 1
    omega
  · obtain ⟨b, r, e, h45, h43⟩ := dec_ne n.toNat
    have h := dec_digits n.toNat
    rw [if_neg c, e, Lib.atoi, if_neg (fun z => h45 (by rw [beq_iff_eq.1 z]; rfl)), if_neg (fun z => h43 (by rw [beq_iff_eq.1 z]; rfl)), Lib.decNat]
    rw [e] at h
    simp only [List.isEmpty_cons, Bool.false_eq_true, if_false, h, Option.map_some]
    congr 1
    omega
theorem itoa_inj {a b : Int} (h : Lib.itoa a = Lib.itoa b) : a = b := by
  have e := atoi_itoa a
  rw [h, atoi_itoa b] at e
  exact (Option.some.inj e).symm
theorem itoa_short (n : Int) (h0 : -999999 ≤ n) (h1 : n ≤ 999999) : (Lib.itoa n).length ≤ 7 := by
  unfold Lib.itoa
  by_cases c : n < 0
  · rw [if_pos c, List.length_cons]
    have := dec_short 5 n.natAbs (by have : (10 : Nat) ^ (5 + 1) = 1000000 := by decide
                                     omega)
    omega
  · rw [if_neg c]
    have := dec_short 5 n.toNat (by have : (10 : Nat) ^ (5 + 1) = 1000000 := by decide
                                    omega)
    omega
/-- What a parse may answer. -/
def Parsed (l : List UInt8) (R : Int × Bool) : Prop :=
  (R = (0, false) ∧ ∀ n : Int, -999999 ≤ n → n ≤ 999999 → Lib.itoa n ≠ l) ∨ (∃ n : Int, -999999 ≤ n ∧ n ≤ 999999 ∧ Lib.itoa n = l ∧ R = (n, true))
theorem Parsed.one {l : List UInt8} {R S : Int × Bool} (h : Parsed l R) (k : Parsed l S) : R = S := by
  rcases h with ⟨rfl, h⟩ | ⟨n, h0, h1, h, rfl⟩
  · rcases k with ⟨rfl, _⟩ | ⟨m, k0, k1, k, rfl⟩
    · rfl
    · exact absurd k (h m k0 k1)
  · rcases k with ⟨rfl, k⟩ | ⟨m, k0, k1, k, rfl⟩
    · exact absurd h (k n h0 h1)
    · rw [itoa_inj (h.trans k.symm)]

/-! detect -/
theorem digit_ne (d : Nat) (h : d < 10) : (35 : UInt8) ≠ UInt8.ofNat (48 + d) := by
  match d, h with
  | 0, _ => decide
  | 1, _ => decide
  | 2, _ => decide
  | 3, _ => decide
  | 4, _ => decide
  | 5, _ => decide
  | 6, _ => decide
  | 7, _ => decide
  | 8, _ => decide
  | 9, _ => decide
theorem dec_no35 (u : Nat) : (35 : UInt8) ∉ Lib.decDigits u := by
  rw [Lib.decDigits]
  by_cases h : u < 10
  · rw [dif_pos h, List.mem_singleton]; exact digit_ne u h
  · rw [dif_neg h, List.mem_append, List.mem_singleton]
    rintro (m | m)
    · exact dec_no35 (u / 10) m
    · exact digit_ne _ (by omega) m
 termination_by u
 decreasing_by omega
theorem itoa_no35 (n : Int) (h : 0 ≤ n) : (35 : UInt8) ∉ Lib.itoa n := by
  unfold Lib.itoa
  rw [if_neg (by omega)]
  exact dec_no35 _
theorem hasB_mem (s : ByteArray) (h : hasB s 35 = false) : (35 : UInt8) ∉ s.data.toList := by
  intro m
  unfold hasB at h
  rw [List.any_eq_false] at h
  exact h _ m (by decide)
theorem seal_data (s : ByteArray) : (sealB s).data.toList = s.data.toList ++ 35 :: Lib.itoa (sumL s.data.toList 7) := by
  unfold sealB
  rw [sum_L]
  simp [ByteArray.data_append]
theorem add_parts (s : ByteArray) (h : (addSum s).2 = true) : hasB s 35 = false ∧ (addSum s).1 = sealB s ∧ s.size ≤ 4000 ∧ (sealB s).size ≤ 4000 := by
  unfold addSum at h ⊢
  by_cases c1 : 4000 < s.size
  · rw [if_pos c1] at h; cases h
  rw [if_neg c1] at h ⊢
  by_cases c2 : hasB s 35 = true
  · rw [if_pos c2] at h; cases h
  rw [if_neg c2] at h ⊢
  by_cases c3 : 4000 < (sealB s).size
  · rw [if_pos c3] at h; cases h
  rw [if_neg c3]
  exact ⟨by simpa using c2, rfl, by omega, by omega⟩
theorem data_eq {s t : ByteArray} (h : s.data.toList = t.data.toList) : s = t := by
  apply ByteArray.ext
  exact Array.toList_inj.1 h
theorem cut_seal (X A : List UInt8) (h : (35 : UInt8) ∉ X) : (Lib.cut (X ++ 35 :: A) [35]).1 = X := by
  obtain ⟨r, e⟩ := head_cut' 35 (X ++ 35 :: A)
  rw [parts_pre 35 X A h] at e
  injection e with e1 _
  exact e1.symm
/-- What was sealed is opened. -/
theorem ver_seal (x : ByteArray) (h : (addSum x).2 = true) : verB (sealB x) = (x, true) := by
  obtain ⟨h1, h2, _⟩ := add_parts x h
  unfold verB
  rw [seal_data, cut_seal _ _ (hasB_mem x h1), show mk8 x.data.toList = x from data_eq rfl, if_pos h, if_pos (by rw [h2])]
/-- One changed byte is seen. -/
theorem ver_changed (x y : ByteArray) (h : (addSum x).2 = true) (k : Nat) (b : UInt8) (hk : k < (sealB x).data.toList.length) (hne : (sealB x).data.toList[k] ≠ b) (hy : y.data.toList = (sealB x).data.toList.set k b) : (verB y).2 = false := by
  obtain ⟨h1, h2, _⟩ := add_parts x h
  unfold verB
  generalize ht : mk8 (Lib.cut y.data.toList [35]).1 = t
  by_cases a1 : (addSum t).2 = true
  · rw [if_pos a1]
    by_cases a2 : (addSum t).1.toList = y.toList
    · exfalso
      obtain ⟨t1, t2, _⟩ := add_parts t a1
      rw [t2, ByteArray.toList_eq, ByteArray.toList_eq, hy, seal_data] at a2
      have sb := seal_data x
      generalize hL : (sealB x).data.toList = L at hk hne hy a2 sb
      subst sb
      have hx0 := (sumL_bd x.data.toList 7 (by omega) (by omega)).1
      have ht0 := (sumL_bd t.data.toList 7 (by omega) (by omega)).1
      rcases one_change 35 b _ _ _ _ (hasB_mem x h1) (itoa_no35 _ hx0) (hasB_mem t t1) (itoa_no35 _ ht0) k hk hne a2 with ⟨hk2, hn2, e1, e2⟩ | ⟨e1, e2⟩
      · have e3 := itoa_inj e2
        rw [e1] at e3
        exact sumL_set x.data.toList k b 7 hk2 (by omega) (by omega) hn2 e3.symm
      · exact e2 (by rw [e1])
    · rw [if_neg a2]
  · rw [if_neg a1]

/-! stands -/
theorem stands_l0 (s : ByteArray) (c : Int) (hs : s.size ≤ 2000000) (i : Nat) : i ≤ s.size → Ev (fun k => spec_l1Stands.l0 k s c (i : Int)) ((s.data.toList.drop i).any (fun b => decide ((b.toNat : Int) = c))) := by
  intro hi
  have hz : s.data.toList.length = s.size := Array.length_toList
  refine ev_succ ?_
  simp only [spec_l1Stands.l0]
  by_cases h : i < s.size
  · have hl : i < s.data.toList.length := by omega
    refine ev_ifp (by omega) (ev_ifp (by omega) ?_)
    rw [List.drop_eq_getElem_cons hl, List.any_cons, bt_get s i hl]
    by_cases e : ((s.data.toList[i]).toNat : Int) = c
    · exact ev_ifp e (ev_now (by rw [decide_eq_true e]; rfl))
    · refine ev_ifn e ?_
      rw [w64 (x := (i : Int) + 1) (by omega) (by omega), decide_eq_false e, Bool.false_or]
      exact stands_l0 s c hs (i + 1) (by omega)
  · rw [List.drop_eq_nil_of_le (by omega)]
    exact ev_ifn (by omega) (ev_now rfl)
 termination_by s.size - i
theorem stands_ev (s : ByteArray) (c : Int) (hs : s.size ≤ 2000000) : Ev (fun k => spec_l1Stands.f k s c) (hasB s c) := stands_l0 s c hs 0 (by omega)

/-! drawP -/
/-- What a reader of draws reads are bytes. -/
def IsBytes (l : List Int) : Prop := ∀ x ∈ l, 0 ≤ x ∧ x ≤ 255
theorem bytes_wf (l : List Int) (h : ∀ x ∈ l, (Lit.int .u8 x).wf = true) : IsBytes l := by
  intro x hx
  have := h x hx
  simp [Lit.wf, IntKind.min, IntKind.max, IntKind.signed, IntKind.bits] at this
  omega
theorem and255 (z : Int) : 0 ≤ Go.bits .and .u64 (IntKind.u64.wrap z / 1099511627776) 255 ∧ Go.bits .and .u64 (IntKind.u64.wrap z / 1099511627776) 255 ≤ 255 := by
  rw [IntKind.wrap_u64]
  obtain ⟨m, hm⟩ : ∃ m : Nat, z % 18446744073709551616 / 1099511627776 = (m : Int) := ⟨_, (Int.toNat_of_nonneg (by omega)).symm⟩
  have hlt : m < 18446744073709551616 := by omega
  have h := bits_and_u64_nat m 255 hlt (by omega)
  have hle : m &&& 255 ≤ 255 := Nat.and_le_right
  rw [hm]
  have e : Go.bits .and .u64 (m : Int) 255 = ((m &&& 255 : Nat) : Int) := h
  rw [e]
  omega
theorem next_ok (l : List Int) (hl : IsBytes l) (a s : Int) (h0 : 0 ≤ a) (h1 : a ≤ 1000000) : ∃ x s', spec_l1Cur_next.f l a s = some (x, a + 1, s') ∧ 0 ≤ x ∧ x ≤ 255 := by
  unfold spec_l1Cur_next.f
  rw [w64 (x := a + 1) (by omega) (by omega)]
  have b255 : ∀ z : Int, ∃ y, wrap64 (Go.bits .and .u64 (IntKind.u64.wrap z / 1099511627776) 255) = y ∧ 0 ≤ y ∧ y ≤ 255 := fun z => by
    have := and255 z
    exact ⟨_, w64 (by omega) (by omega), this⟩
  by_cases c : a < (l.length : Int)
  · rw [if_pos c, if_pos h0, if_pos (by omega)]
    have m : rd l a ∈ l := by
      obtain ⟨n, rfl⟩ : ∃ n : Nat, a = (n : Int) := ⟨a.toNat, by omega⟩
      exact rd_mem l n (by omega)
    have b := hl _ m
    rw [w64 (x := rd l a) (by omega) (by omega)]
    exact ⟨_, _, rfl, b⟩
  · rw [if_neg c, if_neg (by omega)]
    obtain ⟨y, e, hy⟩ := b255 _
    rw [e]
    exact ⟨_, _, rfl, hy⟩
theorem tmod_ok (x n : Int) (hx : 0 ≤ x) (hn : 0 < n) : 0 ≤ Int.tmod x n ∧ Int.tmod x n < n := ⟨Int.tmod_nonneg _ hx, Int.tmod_lt_of_pos _ hn⟩
theorem pick_ok (l : List Int) (hl : IsBytes l) (a s n : Int) (h0 : 0 ≤ a) (h1 : a ≤ 100000) (hn : 1 < n) (hn2 : n ≤ 100000) : ∃ x a' s', spec_l1Cur_pick.f l a s n = some (x, a', s') ∧ (0 ≤ x ∧ x < n) ∧ a ≤ a' ∧ a' ≤ a + 2 := by
  unfold spec_l1Cur_pick.f
  rw [if_neg (by omega)]
  obtain ⟨x, s1, e1, hx⟩ := next_ok l hl a s h0 (by omega)
  rw [e1]
  simp only [Option.bind_some]
  by_cases c : n > 200
  · rw [if_pos c]
    obtain ⟨y, s2, e2, hy⟩ := next_ok l hl (a + 1) s1 (by omega) (by omega)
    rw [e2]
    simp only [Option.bind_some]
    rw [if_neg (by omega), w64 (x := x * 256) (by omega) (by omega), w64 (by omega) (by omega)]
    exact ⟨_, _, _, rfl, tmod_ok _ _ (by omega) (by omega), by omega, by omega⟩
  · rw [if_neg c, if_neg (by omega)]
    exact ⟨_, _, _, rfl, tmod_ok _ _ (by omega) (by omega), by omega, by omega⟩

/-! drawFmt -/
theorem drawFmt_ok (l : List Int) (hl : IsBytes l) : ∃ n, spec_DrawFormatInt.f l = some n := by
  unfold spec_DrawFormatInt.f
  obtain ⟨t, a1, s1, e1, ht, h1⟩ := pick_ok l hl 0 0 1000 (by omega) (by omega) (by omega) (by omega)
  rw [e1]
  simp only [Option.bind_some]
  generalize hL : ([0, 1, (-1), 10, 999999, (-999999), 1000000, (-1000000), wrap64 (t - 500)] : List Int) = L
  have hz : L.length = 9 := by rw [← hL]; rfl
  unfold spec_l1Cur_among.f
  obtain ⟨x, a2, s2, e2, hx, _⟩ := pick_ok l hl a1 s1 (L.length : Int) (by omega) (by omega) (by omega) (by omega)
  rw [e2]
  simp only [Option.bind_some]
  rw [if_pos hx.1, if_pos hx.2]
  exact ⟨_, rfl⟩

/-! drawOne -/
theorem one_ok (l : List Int) (hl : IsBytes l) (a s n : Int) (h0 : 0 ≤ a) (h1 : a ≤ 100000) (hn : 1 < n) (hn2 : n ≤ 100000) : ∃ b a' s', spec_l1Cur_one.f l a s n = some (b, a', s') ∧ a ≤ a' ∧ a' ≤ a + 2 := by
  unfold spec_l1Cur_one.f
  obtain ⟨x, a', s', e, _, h⟩ := pick_ok l hl a s n h0 h1 hn hn2
  rw [e]
  exact ⟨_, _, _, rfl, h⟩

/-! drawOf -/
theorem of_ok (l : List Int) (hl : IsBytes l) (a s : Int) (L : List ByteArray) (h0 : 0 ≤ a) (h1 : a ≤ 100000) (hn : 1 < L.length) (hn2 : L.length ≤ 100000) : ∃ t a' s', spec_l1Cur_of.f l a s L = some (t, a', s') ∧ t ∈ L ∧ a ≤ a' ∧ a' ≤ a + 2 := by
  unfold spec_l1Cur_of.f
  obtain ⟨x, a', s', e, hx, h⟩ := pick_ok l hl a s (L.length : Int) h0 h1 (by omega) (by omega)
  rw [e]
  simp only [Option.bind_some]
  rw [if_pos hx.1, if_pos hx.2]
  refine ⟨_, _, _, rfl, ?_, h⟩
  obtain ⟨n, rfl⟩ : ∃ n : Nat, x = (n : Int) := ⟨x.toNat, by omega⟩
  have hlt : n < L.length := by omega
  have e2 : rdOf ByteArray.empty L (n : Int) = L[n] := by simp [rdOf, List.getD_eq_getElem?_getD, hlt]
  rw [e2]
  exact List.getElem_mem hlt

/-! drawPar -/
theorem drawPar_ok (l : List Int) (hl : IsBytes l) : ∃ t, Ev (fun k => spec_DrawParseInt.f k l) t ∧ t.size ≤ 4000 := by
  unfold spec_DrawParseInt.f
  obtain ⟨b, a1, s1, e1, h1⟩ := one_ok l hl 0 0 2 (by omega) (by omega) (by omega) (by omega)
  simp only [e1, Option.bind_some]
  cases b with
  | true =>
    obtain ⟨t, a2, s2, e2, ht, _⟩ := of_ok l hl a1 s1 ([(⟨#[]⟩ : ByteArray), (⟨#[45]⟩ : ByteArray), (⟨#[45, 48]⟩ : ByteArray), (⟨#[48, 48]⟩ : ByteArray), (⟨#[48, 49]⟩ : ByteArray), (⟨#[45, 45, 49]⟩ : ByteArray), (⟨#[49, 120]⟩ : ByteArray), (⟨#[57, 57, 57, 57, 57, 57]⟩ : ByteArray), (⟨#[49, 48, 48, 48, 48, 48, 48]⟩ : ByteArray), (⟨#[45, 57, 57, 57, 57, 57, 57]⟩ : ByteArray), (⟨#[49, 56, 52, 52, 54, 55, 52, 52, 48, 55, 51, 55, 48, 57, 53, 53, 49, 54, 49, 55]⟩ : ByteArray)] : List ByteArray) (by omega) (by omega) (by decide) (by decide)
    refine ⟨t, ev_ifp (by simp) ?_, ?_⟩
    · rw [e2]
      exact ev_now rfl
    · simp only [List.mem_cons, List.not_mem_nil, or_false] at ht
      rcases ht with rfl | rfl | rfl | rfl | rfl | rfl | rfl | rfl | rfl | rfl | rfl <;> decide
  | false =>
    obtain ⟨u, a2, s2, e2, hu, _⟩ := pick_ok l hl a1 s1 2000 (by omega) (by omega) (by omega) (by omega)
    refine ⟨⟨(Lib.itoa (u - 1000)).toArray⟩, ev_ifn (by simp) ?_, ?_⟩
    · rw [e2]
      simp only [Option.bind_some]
      rw [w64 (x := u - 1000) (by omega) (by omega)]
      exact ev_bind (num_ev (u - 1000) (by omega) (by omega)) (ev_now rfl)
    · have h2 := itoa_len (u - 1000)
      have h3 : (⟨(Lib.itoa (u - 1000)).toArray⟩ : ByteArray).size = (Lib.itoa (u - 1000)).length := List.size_toArray
      omega

/-! drawAny -/
def ANY : List ByteArray := [(⟨#[]⟩ : ByteArray), (⟨#[97]⟩ : ByteArray), (⟨#[97, 44, 98]⟩ : ByteArray), (⟨#[115, 111, 109, 101, 32, 119, 111, 114, 100, 115]⟩ : ByteArray), (⟨#[120, 35, 121]⟩ : ByteArray), (⟨#[45, 49, 50]⟩ : ByteArray), (⟨#[0, 255]⟩ : ByteArray), (⟨#[44, 44]⟩ : ByteArray), (⟨#[48]⟩ : ByteArray)]
theorem any_size : ∀ t ∈ ANY, t.size ≤ 10 := by
  intro t ht
  simp only [ANY, List.mem_cons, List.not_mem_nil, or_false] at ht
  rcases ht with rfl | rfl | rfl | rfl | rfl | rfl | rfl | rfl | rfl <;> decide
theorem any1_ok (l : List Int) (hl : IsBytes l) (a s : Int) (h0 : 0 ≤ a) (h1 : a ≤ 100000) : ∃ t a' s', spec_l1Cur_any1.f l a s = some (t, a', s') ∧ t.size ≤ 10 ∧ a ≤ a' ∧ a' ≤ a + 2 := by
  unfold spec_l1Cur_any1.f
  obtain ⟨t, a', s', e, ht, h⟩ := of_ok l hl a s ANY h0 h1 (by decide) (by decide)
  rw [show ([(⟨#[]⟩ : ByteArray), (⟨#[97]⟩ : ByteArray), (⟨#[97, 44, 98]⟩ : ByteArray), (⟨#[115, 111, 109, 101, 32, 119, 111, 114, 100, 115]⟩ : ByteArray), (⟨#[120, 35, 121]⟩ : ByteArray), (⟨#[45, 49, 50]⟩ : ByteArray), (⟨#[0, 255]⟩ : ByteArray), (⟨#[44, 44]⟩ : ByteArray), (⟨#[48]⟩ : ByteArray)] : List ByteArray) = ANY from rfl, e]
  exact ⟨t, _, _, rfl, any_size t ht, h⟩

/-! zerosS -/
theorem strOf_size (l : List Int) : (strOfNums l).size = l.length := by
  unfold strOfNums
  simp [ByteArray.size]

/-! drawApp -/
theorem drawApp_ok (l : List Int) (hl : IsBytes l) : ∃ x, spec_DrawAppendChecksum.f l = some x ∧ x.size ≤ 4010 := by
  unfold spec_DrawAppendChecksum.f
  obtain ⟨b, a1, s1, e1, h1⟩ := one_ok l hl 0 0 20 (by omega) (by omega) (by omega) (by omega)
  simp only [e1, Option.bind_some]
  cases b with
  | true =>
    obtain ⟨u, a2, s2, e2, hu, _⟩ := pick_ok l hl a1 s1 10 (by omega) (by omega) (by omega) (by omega)
    rw [if_pos rfl, e2]
    simp only [Option.bind_some]
    have ew : wrap64 (3990 + u) = 3990 + u := w64 (by omega) (by omega)
    rw [if_pos ⟨by rw [ew]; omega, by rw [ew]; omega⟩]
    exact ⟨_, rfl, by rw [strOf_size, List.length_replicate, ew]; omega⟩
  | false =>
    obtain ⟨t, a2, s2, e2, ht, _⟩ := any1_ok l hl a1 s1 (by omega) (by omega)
    rw [if_neg (by simp), e2]
    exact ⟨t, rfl, by omega⟩

/-! vAtS -/
theorem vAt_ok (l : List Int) (hl : IsBytes l) (h : l.length ≤ 65536) (a : Nat) (ha : a ≤ 100) : ∃ v, laws_vAt.f l (a : Int) = some v ∧ 0 ≤ v := by
  unfold laws_vAt.f
  by_cases c : (a : Int) < (l.length : Int)
  · rw [if_pos c, if_pos (by omega)]
    have b := hl _ (rd_mem l a (by omega))
    exact ⟨_, rfl, by rw [w64 (by omega) (by omega)]; exact b.1⟩
  · rw [if_neg c]
    refine ⟨_, rfl, Int.tmod_nonneg _ ?_⟩
    rw [w64 (x := (a : Int) * 7) (by omega) (by omega), w64 (by omega) (by omega)]
    omega
theorem XV_ok (b v : Int) (h0 : 0 ≤ b) (h1 : b < 256) (hv : 0 ≤ v) : ∃ x : Nat, XV b v = (x : Int) ∧ x < 256 ∧ (x : Int) ≠ b := by
  have t1 := Int.tmod_nonneg 255 hv
  have t2 := Int.tmod_lt_of_pos v (show (0 : Int) < 255 by omega)
  obtain ⟨d, hd⟩ : ∃ d : Nat, (d : Int) = 1 + v.tmod 255 := ⟨(1 + v.tmod 255).toNat, by omega⟩
  obtain ⟨n, rfl⟩ : ∃ n : Nat, b = (n : Int) := ⟨b.toNat, by omega⟩
  unfold XV
  rw [← hd, w64 (by omega) (by omega), show IntKind.u8.wrap (d : Int) = (d : Int) from by rw [IntKind.wrap_u8]; omega, u8_xor_nat n d (by omega) (by omega)]
  refine ⟨n ^^^ d, rfl, Nat.xor_lt_two_pow (n := 8) (by omega) (by omega), fun e => ?_⟩
  have e1 : n ^^^ d = n := by omega
  have e2 : n ^^^ (n ^^^ d) = n ^^^ n := by rw [e1]
  rw [← Nat.xor_assoc, Nat.xor_self, Nat.zero_xor] at e2
  omega

/-! within -/
theorem within_eq (a b c : Int) : impl_within.f a b c = some (decide (b ≤ a ∧ a ≤ c)) := by
  unfold impl_within.f
  by_cases h : a ≥ b
  · rw [if_pos h]; congr 1; rw [decide_eq_decide]; omega
  · rw [if_neg h]; congr 1; symm; rw [decide_eq_false_iff_not]; omega

/-! implParse -/
theorem impl_parsed (s : ByteArray) : ∃ R, impl_ParseInt.f s = some R ∧ Parsed s.data.toList R := by
  have hz : s.data.toList.length = s.size := Array.length_toList
  unfold impl_ParseInt.f
  by_cases c : 7 < s.size
  · refine ⟨(0, false), if_pos c, .inl ⟨rfl, fun n h0 h1 e => ?_⟩⟩
    have := itoa_short n h0 h1
    rw [e] at this
    omega
  rw [if_neg c]
  have ha := Lib.atoiAll_short s.data.toList (by omega)
  cases e : Lib.atoi s.data.toList with
  | none =>
    rw [ha, e]
    refine ⟨(0, false), rfl, .inl ⟨rfl, fun n h0 h1 z => ?_⟩⟩
    rw [← z, atoi_itoa] at e
    cases e
  | some v =>
    rw [ha, e]
    have hno : ∀ n, Lib.itoa n = s.data.toList → n = v := fun n z => by
      rw [← z, atoi_itoa] at e
      exact Option.some.inj e
    simp only [Lib.NumEnd.ofOption]
    by_cases c1 : v < -999999
    · exact ⟨(0, false), if_pos c1, .inl ⟨rfl, fun n h0 h1 z => by have := hno n z; omega⟩⟩
    rw [if_neg c1]
    by_cases c2 : 999999 < v
    · exact ⟨(0, false), if_pos c2, .inl ⟨rfl, fun n h0 h1 z => by have := hno n z; omega⟩⟩
    rw [if_neg c2]
    by_cases c3 : Lib.itoa v = s.data.toList
    · exact ⟨(v, true), if_pos c3, .inr ⟨v, by omega, by omega, c3, rfl⟩⟩
    · exact ⟨(0, false), if_neg c3, .inl ⟨rfl, fun n h0 h1 z => c3 (by rw [← hno n z]; exact z)⟩⟩

/-! specParse -/
/-- What the reference answers behind its look at the digits. -/
def fin (s t : ByteArray) (m : Nat) : Int × Bool :=
  if t.size < s.size then (if Lib.itoa (-(m : Int)) = s.data.toList then (-(m : Int), true) else (0, false)) else (if Lib.itoa (m : Int) = s.data.toList then ((m : Int), true) else (0, false))
def fins (s t : ByteArray) : Option Nat → Int × Bool
  | some m => fin s t m
  | none => (0, false)
theorem bytes_eq (l : List UInt8) (s : ByteArray) : ((⟨l.toArray⟩ : ByteArray).toList = s.toList) = (l = s.data.toList) := by
  rw [ByteArray.toList_eq, ByteArray.toList_eq]
theorem read_l0 (s t : ByteArray) (ht : t.size ≤ 6) (i : Nat) (hi : i ≤ t.size) (acc : Nat) (ha : acc < 10 ^ i) :
    Ev (fun k => spec_l1Read.l0 k s t (acc : Int) (i : Int)) (fins s t (Lib.decFrom acc (t.data.toList.drop i))) := by
  have hz : t.data.toList.length = t.size := Array.length_toList
  have hp : (10 : Nat) ^ i ≤ 1000000 := by
    have := Nat.pow_le_pow_right (show 0 < 10 by decide) (show i ≤ 6 by omega)
    have e : (10 : Nat) ^ 6 = 1000000 := by decide
    omega
  refine ev_succ ?_
  simp only [spec_l1Read.l0]
  by_cases h : i < t.size
  · have hl : i < t.data.toList.length := by omega
    refine ev_ifp (by omega) (ev_ifp (by omega) ?_)
    rw [List.drop_eq_getElem_cons hl, bt_get t i hl]
    generalize t.data.toList[i] = b
    have hb : b.toNat < 256 := b.toNat_lt
    by_cases c1 : (b.toNat : Int) < 48
    · refine ev_ifp c1 (ev_now ?_)
      simp only [Lib.decFrom, Lib.digitVal]
      rw [if_neg (by omega)]
      rfl
    refine ev_ifn c1 ?_
    by_cases c2 : (b.toNat : Int) > 57
    · refine ev_ifp c2 (ev_now ?_)
      simp only [Lib.decFrom, Lib.digitVal]
      rw [if_neg (by omega)]
      rfl
    refine ev_ifn c2 ?_
    have e1 : ((b.toNat : Int) - 48) % 256 = ((b.toNat - 48 : Nat) : Int) := by omega
    rw [e1, w64 (x := 10 * (acc : Int)) (by omega) (by omega), w64 (x := 10 * (acc : Int) + _) (by omega) (by omega), w64 (x := (i : Int) + 1) (by omega) (by omega)]
    have e2 : 10 * (acc : Int) + ((b.toNat - 48 : Nat) : Int) = ((acc * 10 + (b.toNat - 48) : Nat) : Int) := by omega
    rw [e2]
    refine ev_to (read_l0 s t ht (i + 1) (by omega) (acc * 10 + (b.toNat - 48)) (by rw [Nat.pow_succ]; omega)) ?_
    simp only [Lib.decFrom, Lib.digitVal]
    rw [if_pos (by omega)]
  · rw [List.drop_eq_nil_of_le (by omega)]
    refine ev_ifn (by omega) ?_
    simp only [Lib.decFrom, fins]
    unfold fin
    by_cases d : t.size < s.size
    · rw [if_pos d, w64 (by omega) (by omega)]
      refine ev_ifp (by omega) (ev_bind (num_ev _ (by omega) (by omega)) ?_)
      by_cases g : Lib.itoa (-(acc : Int)) = s.data.toList
      · rw [if_pos g]; exact ev_ifp ((bytes_eq _ s).mpr g) (ev_now rfl)
      · rw [if_neg g]; exact ev_ifn (fun z => g ((bytes_eq _ s).mp z)) (ev_now rfl)
    · rw [if_neg d]
      refine ev_ifn (by omega) (ev_bind (num_ev _ (by omega) (by omega)) ?_)
      by_cases g : Lib.itoa (acc : Int) = s.data.toList
      · rw [if_pos g]; exact ev_ifp ((bytes_eq _ s).mpr g) (ev_now rfl)
      · rw [if_neg g]; exact ev_ifn (fun z => g ((bytes_eq _ s).mp z)) (ev_now rfl)
 termination_by t.size - i

def j1R (s t : ByteArray) : Int × Bool := if 1 ≤ t.size ∧ t.size ≤ 6 then fins s t (Lib.decFrom 0 t.data.toList) else (0, false)
theorem j1_ev (s t : ByteArray) (h : t.size ≤ 2000000) : Ev (fun k => spec_l1Read.j1 k s t) (j1R s t) := by
  refine ev_succ ?_
  simp only [spec_l1Read.j1]
  rw [l1In_eq]
  simp only [Option.bind_some]
  unfold j1R
  by_cases c : 1 ≤ t.size ∧ t.size ≤ 6
  · rw [if_pos c]
    refine ev_ifp (decide_eq_true (by omega)) ?_
    exact read_l0 s t c.2 0 (by omega) 0 (by decide)
  · rw [if_neg c]
    refine ev_ifn ?_ (ev_now rfl)
    rw [decide_eq_true_iff]
    omega
theorem six (l : List UInt8) (m : Nat) (hl : l.length ≤ 6) (h : Lib.decFrom 0 l = some m) : m ≤ 999999 := by
  have h1 := Lib.decFrom_lt l 0 m h
  have hp : 10 ^ l.length ≤ 10 ^ 6 := Nat.pow_le_pow_right (by decide) hl
  have e : (10 : Nat) ^ 6 = 1000000 := by decide
  omega
theorem dec_six (u : Nat) (h : u ≤ 999999) : (Lib.decDigits u).length ≤ 6 := by
  have e : (10 : Nat) ^ (5 + 1) = 1000000 := by decide
  exact dec_short 5 u (by omega)
theorem plain_parsed (s : ByteArray) (hno : ∀ r, s.data.toList = 45 :: r → r = []) : Parsed s.data.toList (j1R s s) := by
  have hz : s.data.toList.length = s.size := Array.length_toList
  have hp : ∀ n : Int, -999999 ≤ n → n ≤ 999999 → Lib.itoa n = s.data.toList → (1 ≤ s.size ∧ s.size ≤ 6) ∧ Lib.decFrom 0 s.data.toList = some n.toNat ∧ 0 ≤ n := by
    intro n h0 h1 e
    unfold Lib.itoa at e
    by_cases c : n < 0
    · rw [if_pos c] at e
      obtain ⟨b, r, e2, _⟩ := dec_ne n.natAbs
      have := hno _ e.symm
      rw [e2] at this
      cases this
    · rw [if_neg c] at e
      obtain ⟨b, r, e2, _⟩ := dec_ne n.toNat
      have h6 := dec_six n.toNat (by omega)
      have hd := dec_digits n.toNat
      have h1 : 1 ≤ (Lib.decDigits n.toNat).length := by rw [e2]; simp
      rw [e] at h6 hd h1
      exact ⟨by omega, hd, by omega⟩
  unfold j1R
  by_cases c : 1 ≤ s.size ∧ s.size ≤ 6
  · rw [if_pos c]
    cases e : Lib.decFrom 0 s.data.toList with
    | none =>
      refine .inl ⟨rfl, fun n h0 h1 z => ?_⟩
      have := (hp n h0 h1 z).2.1
      rw [e] at this
      cases this
    | some m =>
      have hm := six _ m (by omega) e
      simp only [fins]
      unfold fin
      rw [if_neg (by omega)]
      by_cases g : Lib.itoa (m : Int) = s.data.toList
      · rw [if_pos g]
        exact .inr ⟨m, by omega, by omega, g, rfl⟩
      · rw [if_neg g]
        refine .inl ⟨rfl, fun n h0 h1 z => g ?_⟩
        obtain ⟨_, h2, h3⟩ := hp n h0 h1 z
        rw [e] at h2
        have := Option.some.inj h2
        rw [show (m : Int) = n by omega]
        exact z
  · rw [if_neg c]
    exact .inl ⟨rfl, fun n h0 h1 z => c (hp n h0 h1 z).1⟩
theorem minus_parsed (s t : ByteArray) (r : List UInt8) (e0 : s.data.toList = 45 :: r) (et : t.data.toList = r) : Parsed s.data.toList (j1R s t) := by
  have hz : s.data.toList.length = s.size := Array.length_toList
  have hzt : t.data.toList.length = t.size := Array.length_toList
  have hlt : t.size < s.size := by rw [← hz, ← hzt, e0, et]; simp
  have hp : ∀ n : Int, -999999 ≤ n → n ≤ 999999 → Lib.itoa n = s.data.toList → (1 ≤ t.size ∧ t.size ≤ 6) ∧ Lib.decFrom 0 t.data.toList = some n.natAbs ∧ n < 0 := by
    intro n h0 h1 e
    unfold Lib.itoa at e
    by_cases c : n < 0
    · rw [if_pos c, e0] at e
      injection e with _ e
      obtain ⟨b, r2, e2, _⟩ := dec_ne n.natAbs
      have h6 := dec_six n.natAbs (by omega)
      have hd := dec_digits n.natAbs
      have h1 : 1 ≤ (Lib.decDigits n.natAbs).length := by rw [e2]; simp
      rw [e, ← et] at h6 hd h1
      exact ⟨by omega, hd, c⟩
    · rw [if_neg c, e0] at e
      obtain ⟨b, r2, e2, h45, _⟩ := dec_ne n.toNat
      rw [e2] at e
      injection e with e _
      exact absurd (by rw [e]; rfl) h45
  unfold j1R
  by_cases c : 1 ≤ t.size ∧ t.size ≤ 6
  · rw [if_pos c]
    cases e : Lib.decFrom 0 t.data.toList with
    | none =>
      refine .inl ⟨rfl, fun n h0 h1 z => ?_⟩
      have := (hp n h0 h1 z).2.1
      rw [e] at this
      cases this
    | some m =>
      have hm := six _ m (by omega) e
      simp only [fins]
      unfold fin
      rw [if_pos hlt]
      by_cases g : Lib.itoa (-(m : Int)) = s.data.toList
      · rw [if_pos g]
        exact .inr ⟨-(m : Int), by omega, by omega, g, rfl⟩
      · rw [if_neg g]
        refine .inl ⟨rfl, fun n h0 h1 z => g ?_⟩
        obtain ⟨_, h2, h3⟩ := hp n h0 h1 z
        rw [e] at h2
        have := Option.some.inj h2
        rw [show -(m : Int) = n by omega]
        exact z
  · rw [if_neg c]
    exact .inl ⟨rfl, fun n h0 h1 z => c (hp n h0 h1 z).1⟩
theorem spec_parsed (s : ByteArray) (hs : s.size ≤ 2000000) : ∃ R, Ev (fun k => spec_ParseInt.f k s) R ∧ Parsed s.data.toList R := by
  have hz : s.data.toList.length = s.size := Array.length_toList
  unfold spec_ParseInt.f spec_l1Read.f
  by_cases c : (s.size : Int) > 1
  · have hl : 0 < s.data.toList.length := by omega
    have hb := bt_get s 0 hl
    obtain ⟨b, r, e⟩ : ∃ b r, s.data.toList = b :: r := by
      cases e : s.data.toList with
      | nil => rw [e] at hl; simp at hl
      | cons b r => exact ⟨b, r, rfl⟩
    have hb2 : bt s 0 = (b.toNat : Int) := by
      have : bt s ((0 : Nat) : Int) = ((s.data.toList[0]).toNat : Int) := hb
      simp only [e, List.getElem_cons_zero] at this
      exact this
    by_cases d : b.toNat = 45
    · have e45 : b = 45 := UInt8.toNat_inj.1 d
      subst e45
      have et : (s.extract 1 s.size).data.toList = r := by rw [Lib.extract_to_end, e]; rfl
      have hts : (s.extract 1 s.size).size ≤ 2000000 := by
        have h3 : (s.extract 1 s.size).data.toList.length = (s.extract 1 s.size).size := Array.length_toList
        have h4 : (s.data.toList).length = r.length + 1 := by rw [e]; rfl
        rw [← h3, et]
        omega
      refine ⟨j1R s (s.extract 1 s.size), ev_bind (ev_ifp c (ev_ifp (by omega) (ev_succ ?_))) (ev_now rfl), minus_parsed s _ r e et⟩
      simp only [spec_l1Read.j0]
      exact ev_ifp (by rw [hb2]; rfl) (ev_ifp (by omega) (j1_ev s _ hts))
    · refine ⟨j1R s s, ev_bind (ev_ifp c (ev_ifp (by omega) (ev_succ ?_))) (ev_now rfl), plain_parsed s (fun r2 e2 => ?_)⟩
      · simp only [spec_l1Read.j0]
        exact ev_ifn (by rw [hb2, beq_iff_eq]; omega) (j1_ev s s hs)
      · rw [e] at e2
        injection e2 with e3 _
        exact absurd (by rw [e3]; rfl) d
  · refine ⟨j1R s s, ev_bind (ev_ifn c (ev_succ ?_)) (ev_now rfl), plain_parsed s (fun r2 e2 => ?_)⟩
    · simp only [spec_l1Read.j0]
      exact ev_ifn (by simp) (j1_ev s s hs)
    · cases r2 with
      | nil => rfl
      | cons a r3 =>
        have := congrArg List.length e2
        simp only [List.length_cons] at this
        omega

/-! LAW FnStrings -/
theorem specAppend_ev (s : ByteArray) (hs : s.size ≤ 2000000) : Ev (fun k => spec_AppendChecksum.f k s) (addSum s) := by
  unfold spec_AppendChecksum.f addSum
  by_cases c1 : 4000 < s.size
  · rw [if_pos c1]
    exact ev_ifp (by omega) (ev_now rfl)
  rw [if_neg c1]
  refine ev_ifn (by omega) (ev_bind (stands_ev s 35 hs) ?_)
  by_cases c2 : hasB s 35 = true
  · rw [if_pos c2]
    exact ev_ifp c2 (ev_now rfl)
  rw [if_neg c2]
  refine ev_ifn c2 (ev_bind (seal_ev s hs) ?_)
  by_cases c3 : 4000 < (sealB s).size
  · rw [if_pos c3]
    exact ev_ifp (by omega) (ev_now rfl)
  · rw [if_neg c3]
    exact ev_ifn (by omega) (ev_bind (seal_ev s hs) (ev_now rfl))
theorem fmt_ev (n : Int) : ∃ s ok bk th, Ev (fun k => spec_FormatInt.f k n) (s, ok) ∧ impl_FormatInt.f n = some (s, ok) ∧ impl_ParseInt.f s = some (bk, th) ∧ (ok = false ∨ (th = true ∧ bk = n)) := by
  unfold spec_FormatInt.f impl_FormatInt.f
  rw [l1In_eq, within_eq]
  simp only [Option.bind_some]
  by_cases c : -999999 ≤ n ∧ n ≤ 999999
  · obtain ⟨⟨bk, th⟩, hR, pR⟩ := impl_parsed ⟨(Lib.itoa n).toArray⟩
    refine ⟨_, true, bk, th, ev_ifp (decide_eq_true c) (ev_bind (num_ev n (by omega) (by omega)) (ev_now rfl)), ?_, hR, .inr ?_⟩
    · rw [if_pos (decide_eq_true c), strconv_Itoa_49.f, if_pos (by omega)]
      rfl
    · rcases pR with ⟨_, h⟩ | ⟨m, h0, h1, h, e⟩
      · exact absurd rfl (h n c.1 c.2)
      · have e2 : m = n := itoa_inj h
        cases e
        exact ⟨rfl, e2⟩
  · obtain ⟨⟨bk, th⟩, hR, pR⟩ := impl_parsed ⟨#[]⟩
    exact ⟨_, false, bk, th, ev_ifn (by simpa using c) (ev_now rfl), if_neg (by simpa using c), hR, .inl rfl⟩
theorem FnStrings (l : List Int) (_ : l.length ≤ maxLen) (hw : ∀ x ∈ l, (Lit.int .u8 x).wf = true) : ∃ k, laws_FnStrings.Facts k l := by
  have hl := bytes_wf l hw
  have hv : laws_vBig.f l = some (decide ((l.length : Int) > 65536)) := by unfold laws_vBig.f; rfl
  unfold laws_FnStrings.Facts
  rw [hv]
  by_cases c0 : (l.length : Int) > 65536
  · exact ⟨0, .inl (by rw [decide_eq_true c0])⟩
  rw [decide_eq_false c0]
  obtain ⟨n, f1⟩ := drawFmt_ok l hl
  obtain ⟨s, ok, bk, th, ⟨k3, f3⟩, f2, f10, hbk⟩ := fmt_ev n
  obtain ⟨t, ⟨k4, f4⟩, ht⟩ := drawPar_ok l hl
  obtain ⟨⟨m, fine⟩, f5, p5⟩ := impl_parsed t
  obtain ⟨S, ⟨k6, f6⟩, p6⟩ := spec_parsed t (by omega)
  obtain rfl := p5.one p6
  obtain ⟨x, f7, hx⟩ := drawApp_ok l hl
  obtain ⟨k8, f8⟩ := implAppend_ev x (by omega)
  obtain ⟨k9, f9⟩ := specAppend_ev x (by omega)
  cases hS : (addSum x).2 with
  | false =>
    have hy : addSum x = ((⟨#[]⟩ : ByteArray), false) := by
      unfold addSum at hS ⊢
      split
      · rfl
      · split
        · rfl
        · split
          · rfl
          · simp_all
    rw [hy] at f8 f9
    exact ⟨k3 + k4 + k6 + k8 + k9, .inr ⟨n, s, ok, t, m, fine, x, ⟨#[]⟩, false, bk, th, rfl, f1, f2, f3 _ (by omega), f4 _ (by omega), f5, f6 _ (by omega), f7, f8 _ (by omega), f9 _ (by omega), f10, hbk, .inl ⟨rfl, rfl⟩⟩⟩
  | true =>
    obtain ⟨q1, q2, q3, q4⟩ := add_parts x hS
    have hy : addSum x = (sealB x, true) := by rw [← q2, ← hS]
    rw [hy] at f8 f9
    obtain ⟨v9, f12, h9⟩ := vAt_ok l hl (by omega) 9 (by omega)
    obtain ⟨v10, f13, h10⟩ := vAt_ok l hl (by omega) 10 (by omega)
    have hz : (sealB x).data.toList.length = (sealB x).size := Array.length_toList
    have hpos : 0 < (sealB x).size := by rw [← hz, seal_data, List.length_append, List.length_cons]; omega
    have t1 := Int.tmod_nonneg ((sealB x).size : Int) h9
    have t2 := Int.tmod_lt_of_pos v9 (show (0 : Int) < ((sealB x).size : Int) by omega)
    obtain ⟨kx, hkx⟩ : ∃ kx : Nat, Int.tmod v9 ((sealB x).size : Int) = (kx : Int) := ⟨(Int.tmod v9 ((sealB x).size : Int)).toNat, by omega⟩
    have hkl : kx < (sealB x).data.toList.length := by omega
    have hb0 : (nums8 (sealB x)).getD kx 0 = (((sealB x).data.toList[kx]).toNat : Int) := by
      unfold nums8
      rw [List.getD_eq_getElem?_getD, List.getElem?_map, List.getElem?_eq_getElem hkl]
      rfl
    have hb1 : ((sealB x).data.toList[kx]).toNat < 256 := UInt8.toNat_lt _
    obtain ⟨x0, hx0, x1, x2⟩ := XV_ok (((sealB x).data.toList[kx]).toNat : Int) v10 (by omega) (by omega) h10
    have hc := ver_changed x (strOfNums ((nums8 (sealB x)).set kx (x0 : Int))) hS kx (UInt8.ofNat x0) hkl (fun e => x2 (by rw [e]; simp; omega)) (by
      show ((nums8 (sealB x)).set kx (x0 : Int)).map (fun n => UInt8.ofNat n.toNat) = _
      rw [List.map_set, Int.toNat_natCast]
      congr 1
      unfold nums8
      rw [List.map_map]
      exact (List.map_congr_left (fun b _ => by simp)).trans (List.map_id _))
    obtain ⟨k11, f11⟩ := ver_ev (sealB x) (by omega)
    rw [ver_seal x hS] at f11
    have hsz : (strOfNums ((nums8 (sealB x)).set kx (x0 : Int))).size ≤ 2000000 := by rw [strOf_size, List.length_set]; simp only [nums8, List.length_map]; omega
    obtain ⟨k14, f14⟩ := ver_ev (strOfNums ((nums8 (sealB x)).set kx (x0 : Int))) hsz
    generalize hV : verB (strOfNums ((nums8 (sealB x)).set kx (x0 : Int))) = V at hc f14
    obtain ⟨z2, op⟩ := V
    have hop : op = false := hc
    subst hop
    refine ⟨k3 + k4 + k6 + k8 + k9 + k11 + k14, .inr ⟨n, s, ok, t, m, fine, x, sealB x, true, bk, th, rfl, f1, f2, f3 _ (by omega), f4 _ (by omega), f5, f6 _ (by omega), f7, f8 _ (by omega), f9 _ (by omega), f10, hbk, .inr ⟨rfl, v9, v10, kx, _, (x0 : Int), z2, f11 _ (by omega), f12, f13, f14 _ (by omega), hpos, by omega, hkx, by omega, hb0, hx0⟩⟩⟩

end Go.Proofs.YtbdbogpmnmcaeaaDoor.Pure
