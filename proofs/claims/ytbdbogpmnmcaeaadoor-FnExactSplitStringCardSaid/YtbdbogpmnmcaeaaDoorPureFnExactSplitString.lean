/- The pure statement of the law FnExactSplitString: what the program's function answers is what the reference answers, for all arguments of the kinds of its parameters. -/
import Derived.Test.YtbdbogpmnmcaeaaDoorQFnExactSplitStringx2
import Derived.Test.YtbdbogpmnmcaeaaDoorBase
namespace Go.Proofs.YtbdbogpmnmcaeaaDoor.Pure
set_option linter.unusedSimpArgs false
open Go.RowKit Go.Proofs.YtbdbogpmnmcaeaaDoor.PFnExactSplitString Go.Proofs.YtbdbogpmnmcaeaaDoorW.PrintWords Go.Proofs.YtbdbogpmnmcaeaaDoorW.PrintLast Go.Proofs.YtbdbogpmnmcaeaaDoor.Base

/-! parts -/
/-- The parts of a list between a byte. -/
def parts (c : UInt8) : List UInt8 → List (List UInt8)
  | [] => [[]]
  | b :: l => if b = c then [] :: parts c l else (match parts c l with
    | [] => [[b]]
    | p :: r => (b :: p) :: r)
theorem parts_ne (c : UInt8) (l : List UInt8) : ∃ p r, parts c l = p :: r := by
  cases l with
  | nil => exact ⟨_, _, rfl⟩
  | cons b l =>
    rw [parts]
    by_cases h : b = c
    · rw [if_pos h]; exact ⟨_, _, rfl⟩
    · rw [if_neg h]
      cases parts c l with
      | nil => exact ⟨_, _, rfl⟩
      | cons p r => exact ⟨_, _, rfl⟩
theorem parts_cons_ne (c b : UInt8) (l p : List UInt8) (r : List (List UInt8)) (h : b ≠ c) (e : parts c l = p :: r) : parts c (b :: l) = (b :: p) :: r := by
  rw [parts, if_neg h, e]
theorem parts_len (c : UInt8) (l : List UInt8) : (parts c l).length ≤ l.length + 1 := by
  induction l with
  | nil => simp [parts]
  | cons b l ih =>
    obtain ⟨p, r, e⟩ := parts_ne c l
    by_cases h : b = c
    · rw [parts, if_pos h]; simp only [List.length_cons]; omega
    · rw [parts_cons_ne c b l p r h e]; rw [e] at ih; simp only [List.length_cons] at ih ⊢; omega
theorem idx_ge (c : UInt8) (l : List UInt8) : -1 ≤ Lib.indexByte l c := Lib.indexByte_ge l c
theorem parts_miss (c : UInt8) (l : List UInt8) (h : Lib.indexByte l c = -1) : parts c l = [l] := by
  induction l with
  | nil => rfl
  | cons b l ih =>
    rw [Lib.indexByte] at h
    by_cases e : b = c
    · subst e; simp at h
    · have e1 : (b == c) = false := beq_eq_false_iff_ne.2 e
      rw [e1, if_neg (by decide)] at h
      have g := idx_ge c l
      by_cases f : Lib.indexByte l c = -1
      · exact parts_cons_ne c b l l [] e (ih f)
      · rw [if_neg (by simpa using f)] at h; omega
theorem parts_hit (c : UInt8) (l : List UInt8) : ∀ j : Nat, Lib.indexByte l c = j → j < l.length ∧ parts c l = l.take j :: parts c (l.drop (j + 1)) := by
  induction l with
  | nil => intro j h; rw [Lib.indexByte] at h; omega
  | cons b l ih =>
    intro j h
    rw [Lib.indexByte] at h
    by_cases e : b = c
    · have e1 : (b == c) = true := beq_iff_eq.2 e
      rw [e1, if_pos rfl] at h
      obtain rfl : j = 0 := by omega
      rw [parts, if_pos e]
      exact ⟨by simp, rfl⟩
    · have e1 : (b == c) = false := beq_eq_false_iff_ne.2 e
      rw [e1, if_neg (by decide)] at h
      have g := idx_ge c l
      by_cases f : Lib.indexByte l c = -1
      · rw [if_pos (by simpa using f)] at h; omega
      · rw [if_neg (by simpa using f)] at h
        obtain ⟨i, rfl⟩ : ∃ i, j = i + 1 := ⟨j - 1, by omega⟩
        obtain ⟨h1, h2⟩ := ih i (by omega)
        refine ⟨by rw [List.length_cons]; omega, ?_⟩
        rw [parts_cons_ne c b l _ _ e h2]
        rfl
/-- Some bytes ahead of the first part. -/
def glue (a : List UInt8) : List (List UInt8) → List (List UInt8)
  | [] => [a]
  | p :: r => (a ++ p) :: r
def mk8 (l : List UInt8) : ByteArray := ⟨l.toArray⟩
theorem glue_nil (c : UInt8) (l : List UInt8) : glue [] (parts c l) = parts c l := by
  obtain ⟨p, r, e⟩ := parts_ne c l
  rw [e]; rfl
theorem extract_mk (s : ByteArray) (a b : Nat) (_ : a ≤ b) : s.extract a b = mk8 ((s.data.toList.drop a).take (b - a)) := by
  apply ByteArray.ext
  apply Array.toList_inj.1
  rw [ByteArray.data_extract, Array.toList_extract]
  simp [mk8, List.extract_eq_take_drop]

/-! hasB -/
/-- Whether a byte stands in a string. -/
def hasB (s : ByteArray) (c : Int) : Bool := s.data.toList.any (fun b => decide ((b.toNat : Int) = c))
theorem bt_get (s : ByteArray) (i : Nat) (h : i < s.data.toList.length) : bt s (i : Int) = ((s.data.toList[i]).toNat : Int) := by
  have h1 : i < s.size := by rw [Array.length_toList] at h; exact h
  unfold bt
  rw [dif_pos (by simpa using h1)]
  simp [ByteArray.getElem_eq_getElem_data]

/-! l1Split -/
theorem split_l0 (s : ByteArray) (hs : s.size ≤ 2000000) (c : UInt8) (fr i : Nat) (out : List ByteArray) (h1 : fr ≤ i) (h2 : i ≤ s.size) (ho : out.length ≤ i) :
    Ev (fun k => spec_l1Split.l0 k s (c.toNat : Int) out (fr : Int) (i : Int)) (out ++ (glue ((s.data.toList.drop fr).take (i - fr)) (parts c (s.data.toList.drop i))).map mk8) := by
  have hz : s.data.toList.length = s.size := Array.length_toList
  refine ev_succ ?_
  simp only [spec_l1Split.l0]
  by_cases h : i < s.size
  · have hl : i < s.data.toList.length := by omega
    refine ev_ifp (by omega) (ev_ifp (by omega) ?_)
    rw [w64 (x := (i : Int) + 1) (by omega) (by omega), List.drop_eq_getElem_cons hl]
    have hb := bt_get s i hl
    rw [hb]
    generalize hx : s.data.toList[i] = x
    by_cases e : x = c
    · refine ev_ifp (by rw [e]) (ev_ifp (by omega) (ev_ifp (by omega) (ev_ifp (by omega) (ev_ifp (by omega) ?_))))
      rw [parts, if_pos e, Int.toNat_natCast, Int.toNat_natCast]
      refine ev_to (split_l0 s hs c (i + 1) (i + 1) _ (by omega) (by omega) (by simp only [List.length_append, List.length_singleton]; omega)) ?_
      rw [Nat.sub_self, List.take_zero, glue_nil, extract_mk s fr i h1]
      simp [glue]
    · refine ev_ifn (fun z => e (UInt8.toNat_inj.1 (by omega))) ?_
      refine ev_to (split_l0 s hs c fr (i + 1) out (by omega) (by omega) (by omega)) ?_
      obtain ⟨p, r, er⟩ := parts_ne c (s.data.toList.drop (i + 1))
      rw [parts_cons_ne c x _ p r e er, er]
      have e3 : (s.data.toList.drop fr).take (i + 1 - fr) = (s.data.toList.drop fr).take (i - fr) ++ [x] := by
        rw [show i + 1 - fr = (i - fr) + 1 by omega, List.take_add_one]
        congr 1
        rw [List.getElem?_drop, show fr + (i - fr) = i by omega, List.getElem?_eq_getElem hl, hx]
        rfl
      rw [glue, glue, e3, List.append_assoc]
      rfl
  · have e : i = s.size := by omega
    refine ev_ifn (by omega) (ev_ifp (by omega) (ev_ifp (by omega) (ev_ifp (by omega) (ev_now ?_))))
    rw [List.drop_eq_nil_of_le (show s.data.toList.length ≤ i by omega), parts, glue, Int.toNat_natCast, extract_mk s fr s.size (by omega), e]
    simp
 termination_by s.size - i
theorem l1Split_ev (s : ByteArray) (hs : s.size ≤ 2000000) (c : UInt8) : Ev (fun k => spec_l1Split.f k s (c.toNat : Int)) ((parts c s.data.toList).map mk8) := by
  refine ev_to (split_l0 s hs c 0 0 [] (by omega) (by omega) (by simp)) ?_
  rw [List.nil_append, List.drop_zero, Nat.sub_self, List.take_zero, glue_nil]

/-! splitB -/
theorem mk8_data (s : ByteArray) : mk8 s.data.toList = s := by
  apply ByteArray.ext
  simp [mk8]
theorem splitK_parts (c : UInt8) : ∀ (n : Nat) (l : List UInt8), l.length ≤ n → Lib.splitK [c] 0 (Lib.count l [c]) l = parts c l := by
  intro n
  induction n with
  | zero =>
    intro l h
    obtain rfl : l = [] := List.length_eq_zero_iff.1 (by omega)
    rw [Lib.count_miss (by rw [Lib.index_one]; rfl)]
    rfl
  | succ n ih =>
    intro l h
    have g := idx_ge c l
    by_cases m : Lib.indexByte l c = -1
    · rw [Lib.count_miss (by rw [Lib.index_one]; exact m), parts_miss c l m]
      rfl
    · obtain ⟨hj, e⟩ := parts_hit c l (Lib.indexByte l c).toNat (by omega)
      have hi : Lib.index l [c] = ((Lib.indexByte l c).toNat : Nat) := by rw [Lib.index_one]; omega
      rw [Lib.count_hit (by simp) hi, Nat.add_comm, Lib.splitK, if_neg (by rw [hi, beq_iff_eq]; omega), hi, e]
      simp only [Int.toNat_natCast, List.length_singleton, Nat.add_zero]
      rw [ih _ (by rw [List.length_drop]; omega)]
theorem splitB_parts (s : ByteArray) (c : UInt8) : Lib.splitB (⟨#[c]⟩ : ByteArray) 0 (Lib.countB s (⟨#[c]⟩ : ByteArray)) s = (parts c s.data.toList).map mk8 := by
  have h := Lib.splitB_data (⟨#[c]⟩ : ByteArray) 0 (Lib.countB s (⟨#[c]⟩ : ByteArray)) s
  have h2 : Lib.splitK [c] 0 (Lib.countB s (⟨#[c]⟩ : ByteArray)) s.data.toList = parts c s.data.toList := splitK_parts c _ _ (Nat.le_refl _)
  rw [h2] at h
  rw [← h, List.map_map]
  symm
  exact (List.map_congr_left (fun x _ => mk8_data x)).trans (List.map_id _)
theorem count_le (l : List UInt8) (c : UInt8) : Lib.count l [c] ≤ l.length := by
  have e := congrArg List.length (splitK_parts c l.length l (Nat.le_refl _))
  have h := Lib.countB_le (⟨#[c]⟩ : ByteArray) (Nat.le_refl 1) (mk8 l).size (mk8 l) (Nat.le_refl _)
  have hz : (mk8 l).size = l.length := List.size_toArray
  rw [hz] at h
  exact h

/-! rdS -/
abbrev rdS (l : List ByteArray) (i : Int) : ByteArray := rdOf ByteArray.empty l i
theorem rdS_get (l : List ByteArray) (i : Nat) (h : i < l.length) : rdOf ByteArray.empty l (i : Int) = l[i] := by simp [rdOf, List.getD_eq_getElem?_getD, h]
theorem get_rdS (l : List ByteArray) (i : Nat) (h : i < l.length) : l[i]? = some (rdOf ByteArray.empty l (i : Int)) := by rw [rdS_get l i h]; simp [h]
theorem drop_rdS (l : List ByteArray) (i : Nat) (h : i < l.length) : l.drop i = rdOf ByteArray.empty l (i : Int) :: l.drop (i + 1) := by
  rw [List.drop_eq_getElem_cons h, rdS_get l i h]
theorem set_getS (l : List ByteArray) (i j : Nat) (v : ByteArray) (hi : i < l.length) : (l.set i v)[j]? = if j = i then some v else l[j]? := by
  by_cases h : j = i
  · subst h; simp [hi]
  · rw [if_neg h, List.getElem?_set_ne (Ne.symm h)]
theorem eq_of_getS {l m : List ByteArray} (hl : l.length = m.length) (h : ∀ j, j < l.length → l[j]? = m[j]?) : l = m := by
  apply List.ext_getElem?
  intro j
  by_cases hj : j < l.length
  · exact h j hj
  · rw [List.getElem?_eq_none (by omega), List.getElem?_eq_none (by omega)]
/-- The bytes of some strings, counted. -/
def szs : List ByteArray → Nat
  | [] => 0
  | x :: r => x.size + szs r

/-! marks -/
theorem text_ex (n : Nat) : ∀ acc : ByteArray, acc.size + n ≤ 1000000000 → ∃ t, Ev (fun k => laws_markText.l0 k (n : Int) acc) t := by
  intro acc h
  by_cases z : n = 0
  · subst z
    refine ⟨(⟨#[109]⟩ : ByteArray) ++ acc, ev_succ ?_⟩
    simp only [laws_markText.l0]
    exact ev_ifn (by omega) (ev_ifp (by omega) (ev_now rfl))
  · have e1 : Int.tdiv (n : Int) 10 = ((n / 10 : Nat) : Int) := rfl
    have hs : ∀ x : Int, (strOfNums [x]).size = 1 := fun x => rfl
    obtain ⟨t, ht⟩ := text_ex (n / 10) (strOfNums [(wrap64 (48 + (Int.tmod (n : Int) 10))) % 256] ++ acc) (by rw [ByteArray.size_append, hs]; omega)
    refine ⟨t, ev_succ ?_⟩
    simp only [laws_markText.l0]
    refine ev_ifp (by omega) ?_
    simp only [Option.bind_some]
    rw [e1, w64 (x := ((n / 10 : Nat) : Int)) (by omega) (by omega)]
    exact ev_ifp (by rw [hs]; omega) ht
 termination_by n
 decreasing_by omega
theorem mark_ex (m : Nat) (h : m ≤ 100000000) : ∃ t, Ev (fun k => laws_markText.f k (m : Int)) t := by
  unfold laws_markText.f
  by_cases z : (m : Int) ≤ 0
  · exact ⟨_, ev_ifp z (ev_now rfl)⟩
  · obtain ⟨t, ht⟩ := text_ex m (⟨#[]⟩ : ByteArray) (by have : (⟨#[]⟩ : ByteArray).size = 0 := rfl; omega)
    exact ⟨t, ev_ifn z ht⟩
open Classical in
/-- The mark's text. -/
noncomputable def mt (m : Nat) : ByteArray := if h : ∃ t, Ev (fun k => laws_markText.f k (m : Int)) t then Classical.choose h else ⟨#[]⟩
theorem mt_ev (m : Nat) (h : m ≤ 100000000) : Ev (fun k => laws_markText.f k (m : Int)) (mt m) := by
  unfold mt
  rw [dif_pos (mark_ex m h)]
  exact Classical.choose_spec (mark_ex m h)
noncomputable def mts (m : Nat) : Nat → List ByteArray
  | 0 => []
  | n + 1 => mt m :: mts (m + 1) n
theorem mts_len (n : Nat) : ∀ m, (mts m n).length = n := by
  induction n with
  | zero => intro m; rfl
  | succ n ih => intro m; rw [mts, List.length_cons, ih]
theorem mts_get (n : Nat) : ∀ m i, i < n → (mts m n)[i]? = some (mt (m + i)) := by
  induction n with
  | zero => intro m i h; omega
  | succ n ih =>
    intro m i h
    cases i with
    | zero => rfl
    | succ i => rw [mts, List.getElem?_cons_succ, ih (m + 1) i (by omega), show m + 1 + i = m + (i + 1) by omega]
theorem markS_l0 (l : List ByteArray) (m : Nat) (hm : m ≤ 1000000) (hl : l.length ≤ 2000000) (i : Nat) (acc : List ByteArray) (hi : i ≤ l.length) (ha : acc.length = l.length) (hg : ∀ j, j < i → acc[j]? = (mts m l.length)[j]?) :
    Ev (fun k => laws_markStringS.l0 k acc ((m + i : Nat) : Int) (i : Int)) (((m + l.length : Nat) : Int), mts m l.length) := by
  refine ev_succ ?_
  simp only [laws_markStringS.l0]
  by_cases h : i < l.length
  · refine ev_ifp (by omega) (ev_bind (mt_ev (m + i) (by omega)) (ev_ifp (by omega) ?_))
    rw [w64 (x := ((m + i : Nat) : Int) + 1) (by omega) (by omega), w64 (x := (i : Int) + 1) (by omega) (by omega), Int.toNat_natCast, show ((m + i : Nat) : Int) + 1 = ((m + (i + 1) : Nat) : Int) by omega]
    refine markS_l0 l m hm hl (i + 1) (acc.set i (mt (m + i))) (by omega) (by simpa using ha) (fun j hj => ?_)
    rw [set_getS _ _ _ _ (by omega)]
    by_cases e : j = i
    · subst e; rw [if_pos rfl, mts_get _ _ _ h]
    · rw [if_neg e]; exact hg j (by omega)
  · obtain rfl : i = l.length := by omega
    refine ev_ifn (by omega) (ev_now ?_)
    rw [eq_of_getS (m := mts m l.length) (by rw [mts_len, ha]) (fun j hj => hg j (by omega))]
 termination_by l.length - i
theorem markS_ev (l : List ByteArray) (hl : l.length ≤ 2000000) : Ev (fun k => laws_markStringS.f k l 1) (((1 + l.length : Nat) : Int), mts 1 l.length) :=
  markS_l0 l 1 (by omega) hl 0 l (by omega) rfl (fun j hj => by omega)
theorem heldS_l0 (n : Nat) (m : Nat) (hm : m ≤ 1000000) (hl : n ≤ 2000000) (i : Nat) (hi : i ≤ n) :
    Ev (fun k => laws_heldStringS.l0 k (mts m n) ((m + i : Nat) : Int) (i : Int)) ((m + n : Nat) : Int) := by
  refine ev_succ ?_
  simp only [laws_heldStringS.l0]
  by_cases h : i < n
  · refine ev_ifp (by rw [mts_len]; omega) (ev_ifp (by omega) (ev_bind (mt_ev (m + i) (by omega)) (ev_ifp ?_ ?_)))
    · have e := mts_get n m i h
      have e2 : rdOf ByteArray.empty (mts m n) (i : Int) = mt (m + i) := by simp [rdOf, List.getD_eq_getElem?_getD, e]
      rw [e2]
    · rw [w64 (x := ((m + i : Nat) : Int) + 1) (by omega) (by omega), w64 (x := (i : Int) + 1) (by omega) (by omega), show ((m + i : Nat) : Int) + 1 = ((m + (i + 1) : Nat) : Int) by omega]
      exact heldS_l0 n m hm hl (i + 1) (by omega)
  · obtain rfl : i = n := by omega
    exact ev_ifn (by rw [mts_len]; omega) (ev_now rfl)
 termination_by n - i
theorem heldS_ev (n : Nat) (hl : n ≤ 2000000) : Ev (fun k => laws_heldStringS.f k (mts 1 n) 1) ((1 + n : Nat) : Int) := heldS_l0 n 1 (by omega) hl 0 (by omega)

/-! eqStringS -/
theorem eqStringS_l0 (l : List ByteArray) (i : Nat) (hi : i ≤ l.length) (hl : l.length ≤ 2000000) : Ev (fun k => laws_eqStringS.l0 k l l (i : Int)) true := by
  refine ev_succ ?_
  by_cases h : i < l.length
  · simp (disch := omega) only [laws_eqStringS.l0, if_pos, w64]
    exact eqStringS_l0 l (i + 1) (by omega) hl
  · simp (disch := omega) only [laws_eqStringS.l0, if_neg]
    exact ev_now rfl
 termination_by l.length - i
theorem eqStringS_ev (l : List ByteArray) (hl : l.length ≤ 2000000) : Ev (fun k => laws_eqStringS.f k l l) true := by
  simp (disch := omega) only [laws_eqStringS.f, if_pos]
  exact eqStringS_l0 l 0 (by omega) hl

/-! LAW FnExactSplitString -/
theorem one_byte (a : ByteArray) (h : a.size = 1) : ∃ c : UInt8, a = ⟨#[c]⟩ := by
  obtain ⟨⟨l⟩⟩ := a
  match l, h with
  | [b], _ => exact ⟨b, rfl⟩
theorem FnExactSplitString (s a : ByteArray) (_ : s.size ≤ maxLen) (_ : a.size ≤ maxLen) : ∃ k, laws_FnExactSplitString.f k s a = some true := by
  suffices h : Ev (fun k => laws_FnExactSplitString.f k s a) true from by
    obtain ⟨m, hm⟩ := h
    exact ⟨m, hm m (Nat.le_refl _)⟩
  unfold laws_FnExactSplitString.f
  by_cases c0 : (s.size : Int) > 1048576
  · exact ev_ifp c0 (ev_now rfl)
  refine ev_ifn c0 ?_
  by_cases c1 : (a.size : Int) > 1048576
  · exact ev_ifp c1 (ev_now rfl)
  refine ev_ifn c1 ?_
  have hs : s.size ≤ 2000000 := by omega
  have hz : s.data.toList.length = s.size := Array.length_toList
  obtain ⟨R, hR, h1, h2⟩ : ∃ R : List ByteArray × Bool, R.1.length ≤ 2000000 ∧ Ev (fun k => spec_SplitString.f k s a) R ∧ impl_SplitString.f s a = some R := by
    unfold spec_SplitString.f impl_SplitString.f
    by_cases b0 : (a.size : Int) = 1
    · by_cases b1 : (s.size : Int) > 4000
      · exact ⟨([], false), by simp, ev_ifp b0 (ev_ifp b1 (ev_now rfl)), if_pos b1⟩
      · obtain ⟨c, rfl⟩ := one_byte a (by omega)
        have hc : bt (⟨#[c]⟩ : ByteArray) 0 = (c.toNat : Int) := rfl
        refine ⟨((parts c s.data.toList).map mk8, true), ?_, ev_ifp b0 (ev_ifn b1 (ev_ifp (by omega) ?_)), ?_⟩
        · have := parts_len c s.data.toList
          rw [List.length_map]; omega
        · rw [hc]
          exact ev_bind (l1Split_ev s hs c) (ev_now rfl)
        · have hcb : Lib.countB s (⟨#[c]⟩ : ByteArray) ≤ 4294967281 := by
            have h3 : Lib.countB s (⟨#[c]⟩ : ByteArray) ≤ s.data.toList.length := count_le _ _
            omega
          have h1c : 1 ≤ (⟨#[c]⟩ : ByteArray).size := Nat.le_refl 1
          have e : strings_Split.f s (⟨#[c]⟩ : ByteArray) = some ((parts c s.data.toList).map mk8) := by
            unfold strings_Split.f
            rw [if_pos ⟨by omega, h1c, hcb⟩, splitB_parts]
          rw [if_neg b1, if_pos b0, e]
          rfl
    · refine ⟨([], false), by simp, ev_ifn b0 (ev_now rfl), ?_⟩
      by_cases b1 : (s.size : Int) > 4000
      · exact if_pos b1
      · rw [if_neg b1, if_neg b0]
  obtain ⟨l, ok⟩ := R
  have hl : l.length ≤ 2000000 := hR
  refine ev_bind h1 ?_
  rw [h2]
  simp only [Option.bind_some]
  refine ev_bind (eqStringS_ev l hl) (ev_ifp rfl (ev_succ ?_))
  simp only [laws_FnExactSplitString.j0]
  refine ev_ifn (by simp) (ev_bind (markS_ev l hl) (ev_bind (heldS_ev l.length hl) (ev_ifn (by omega) (ev_ifp rfl ?_))))
  rw [h2]
  simp only [Option.bind_some]
  refine ev_bind (eqStringS_ev l hl) (ev_ifp rfl (ev_succ ?_))
  simp only [laws_FnExactSplitString.j1]
  exact ev_ifn (by simp) (ev_bind (heldS_ev l.length hl) (ev_ifn (by omega) (ev_ifp rfl (ev_now rfl))))

end Go.Proofs.YtbdbogpmnmcaeaaDoor.Pure
