/- The pure statement of the law FnSplitJoin: what the program's function answers is what the reference answers, for all arguments of the kinds of its parameters. -/
import Derived.Test.YtbdbogpmnmcaeaaDoorQFnSplitJoinx3
import Derived.Test.YtbdbogpmnmcaeaaDoorBase
namespace Go.Proofs.YtbdbogpmnmcaeaaDoor.Pure
set_option linter.unusedSimpArgs false
open Go.RowKit Go.Proofs.YtbdbogpmnmcaeaaDoor.PFnSplitJoin Go.Proofs.YtbdbogpmnmcaeaaDoorW.PrintWords Go.Proofs.YtbdbogpmnmcaeaaDoorW.PrintLast Go.Proofs.YtbdbogpmnmcaeaaDoor.Base

/-! drawP -/
/-- What a reader of draws reads are bytes. -/
def IsBytes (l : List Int) : Prop := ∀ x ∈ l, 0 ≤ x ∧ x ≤ 255
theorem bytes_wf (l : List Int) (h : ∀ x ∈ l, (Lit.int .u8 x).wf = true) : IsBytes l := by
  intro x hx
  have := h x hx
  simp [Lit.wf, IntKind.min, IntKind.max, IntKind.signed, IntKind.bits] at this
  omega
theorem and255 (z : Int) : 0 ≤ Go.bits .and .u64 (IntKind.u64.wrap z / 1099511627776) 255 ∧ Go.bits .and .u64 (IntKind.u64.wrap z / 1099511627776) 255 ≤ 255 := by
  rw [IntKind.wrap_u64]
  obtain ⟨m, hm⟩ : ∃ m : Nat, z % 18446744073709551616 / 1099511627776 = (m : Int) := ⟨_, (Int.toNat_of_nonneg (by omega)).symm⟩
  have hlt : m < 18446744073709551616 := by omega
  have h := bits_and_u64_nat m 255 hlt (by omega)
  have hle : m &&& 255 ≤ 255 := Nat.and_le_right
  rw [hm]
  have e : Go.bits .and .u64 (m : Int) 255 = ((m &&& 255 : Nat) : Int) := h
  rw [e]
  omega
theorem next_ok (l : List Int) (hl : IsBytes l) (a s : Int) (h0 : 0 ≤ a) (h1 : a ≤ 1000000) : ∃ x s', spec_l1Cur_next.f l a s = some (x, a + 1, s') ∧ 0 ≤ x ∧ x ≤ 255 := by
  unfold spec_l1Cur_next.f
  rw [w64 (x := a + 1) (by omega) (by omega)]
  have b255 : ∀ z : Int, ∃ y, wrap64 (Go.bits .and .u64 (IntKind.u64.wrap z / 1099511627776) 255) = y ∧ 0 ≤ y ∧ y ≤ 255 := fun z => by
    have := and255 z
    exact ⟨_, w64 (by omega) (by omega), this⟩
  by_cases c : a < (l.length : Int)
  · rw [if_pos c, if_pos h0, if_pos (by omega)]
    have m : rd l a ∈ l := by
      obtain ⟨n, rfl⟩ : ∃ n : Nat, a = (n : Int) := ⟨a.toNat, by omega⟩
      exact rd_mem l n (by omega)
    have b := hl _ m
    rw [w64 (x := rd l a) (by omega) (by omega)]
    exact ⟨_, _, rfl, b⟩
  · rw [if_neg c, if_neg (by omega)]
    obtain ⟨y, e, hy⟩ := b255 _
    rw [e]
    exact ⟨_, _, rfl, hy⟩
theorem tmod_ok (x n : Int) (hx : 0 ≤ x) (hn : 0 < n) : 0 ≤ Int.tmod x n ∧ Int.tmod x n < n := ⟨Int.tmod_nonneg _ hx, Int.tmod_lt_of_pos _ hn⟩
theorem pick_ok (l : List Int) (hl : IsBytes l) (a s n : Int) (h0 : 0 ≤ a) (h1 : a ≤ 100000) (hn : 1 < n) (hn2 : n ≤ 100000) : ∃ x a' s', spec_l1Cur_pick.f l a s n = some (x, a', s') ∧ (0 ≤ x ∧ x < n) ∧ a ≤ a' ∧ a' ≤ a + 2 := by
  unfold spec_l1Cur_pick.f
  rw [if_neg (by omega)]
  obtain ⟨x, s1, e1, hx⟩ := next_ok l hl a s h0 (by omega)
  rw [e1]
  simp only [Option.bind_some]
  by_cases c : n > 200
  · rw [if_pos c]
    obtain ⟨y, s2, e2, hy⟩ := next_ok l hl (a + 1) s1 (by omega) (by omega)
    rw [e2]
    simp only [Option.bind_some]
    rw [if_neg (by omega), w64 (x := x * 256) (by omega) (by omega), w64 (by omega) (by omega)]
    exact ⟨_, _, _, rfl, tmod_ok _ _ (by omega) (by omega), by omega, by omega⟩
  · rw [if_neg c, if_neg (by omega)]
    exact ⟨_, _, _, rfl, tmod_ok _ _ (by omega) (by omega), by omega, by omega⟩

/-! drawOf -/
theorem of_ok (l : List Int) (hl : IsBytes l) (a s : Int) (L : List ByteArray) (h0 : 0 ≤ a) (h1 : a ≤ 100000) (hn : 1 < L.length) (hn2 : L.length ≤ 100000) : ∃ t a' s', spec_l1Cur_of.f l a s L = some (t, a', s') ∧ t ∈ L ∧ a ≤ a' ∧ a' ≤ a + 2 := by
  unfold spec_l1Cur_of.f
  obtain ⟨x, a', s', e, hx, h⟩ := pick_ok l hl a s (L.length : Int) h0 h1 (by omega) (by omega)
  rw [e]
  simp only [Option.bind_some]
  rw [if_pos hx.1, if_pos hx.2]
  refine ⟨_, _, _, rfl, ?_, h⟩
  obtain ⟨n, rfl⟩ : ∃ n : Nat, x = (n : Int) := ⟨x.toNat, by omega⟩
  have hlt : n < L.length := by omega
  have e2 : rdOf ByteArray.empty L (n : Int) = L[n] := by simp [rdOf, List.getD_eq_getElem?_getD, hlt]
  rw [e2]
  exact List.getElem_mem hlt

/-! drawAny -/
def ANY : List ByteArray := [(⟨#[]⟩ : ByteArray), (⟨#[97]⟩ : ByteArray), (⟨#[97, 44, 98]⟩ : ByteArray), (⟨#[115, 111, 109, 101, 32, 119, 111, 114, 100, 115]⟩ : ByteArray), (⟨#[120, 35, 121]⟩ : ByteArray), (⟨#[45, 49, 50]⟩ : ByteArray), (⟨#[0, 255]⟩ : ByteArray), (⟨#[44, 44]⟩ : ByteArray), (⟨#[48]⟩ : ByteArray)]
theorem any_size : ∀ t ∈ ANY, t.size ≤ 10 := by
  intro t ht
  simp only [ANY, List.mem_cons, List.not_mem_nil, or_false] at ht
  rcases ht with rfl | rfl | rfl | rfl | rfl | rfl | rfl | rfl | rfl <;> decide
theorem any1_ok (l : List Int) (hl : IsBytes l) (a s : Int) (h0 : 0 ≤ a) (h1 : a ≤ 100000) : ∃ t a' s', spec_l1Cur_any1.f l a s = some (t, a', s') ∧ t.size ≤ 10 ∧ a ≤ a' ∧ a' ≤ a + 2 := by
  unfold spec_l1Cur_any1.f
  obtain ⟨t, a', s', e, ht, h⟩ := of_ok l hl a s ANY h0 h1 (by decide) (by decide)
  rw [show ([(⟨#[]⟩ : ByteArray), (⟨#[97]⟩ : ByteArray), (⟨#[97, 44, 98]⟩ : ByteArray), (⟨#[115, 111, 109, 101, 32, 119, 111, 114, 100, 115]⟩ : ByteArray), (⟨#[120, 35, 121]⟩ : ByteArray), (⟨#[45, 49, 50]⟩ : ByteArray), (⟨#[0, 255]⟩ : ByteArray), (⟨#[44, 44]⟩ : ByteArray), (⟨#[48]⟩ : ByteArray)] : List ByteArray) = ANY from rfl, e]
  exact ⟨t, _, _, rfl, any_size t ht, h⟩

/-! drawSplit -/
theorem drawSplit_ok (l : List Int) (hl : IsBytes l) : ∃ s m, spec_DrawSplitString.f l = some (s, m) ∧ s.size ≤ 10 ∧ m.size ≤ 2 := by
  unfold spec_DrawSplitString.f
  obtain ⟨t, a1, s1, e1, ht, h1⟩ := any1_ok l hl 0 0 (by omega) (by omega)
  rw [e1]
  simp only [Option.bind_some]
  obtain ⟨m, a2, s2, e2, hm, _⟩ := of_ok l hl a1 s1 ([(⟨#[44]⟩ : ByteArray), (⟨#[44]⟩ : ByteArray), (⟨#[32]⟩ : ByteArray), (⟨#[]⟩ : ByteArray), (⟨#[44, 44]⟩ : ByteArray)] : List ByteArray) (by omega) (by omega) (by decide) (by decide)
  rw [e2]
  refine ⟨t, m, rfl, ht, ?_⟩
  simp only [List.mem_cons, List.not_mem_nil, or_false] at hm
  rcases hm with rfl | rfl | rfl | rfl | rfl <;> decide

/-! drawOne -/
theorem one_ok (l : List Int) (hl : IsBytes l) (a s n : Int) (h0 : 0 ≤ a) (h1 : a ≤ 100000) (hn : 1 < n) (hn2 : n ≤ 100000) : ∃ b a' s', spec_l1Cur_one.f l a s n = some (b, a', s') ∧ a ≤ a' ∧ a' ≤ a + 2 := by
  unfold spec_l1Cur_one.f
  obtain ⟨x, a', s', e, _, h⟩ := pick_ok l hl a s n h0 h1 hn hn2
  rw [e]
  exact ⟨_, _, _, rfl, h⟩

/-! zerosS -/
theorem strOf_size (l : List Int) : (strOfNums l).size = l.length := by
  unfold strOfNums
  simp [ByteArray.size]

/-! rdS -/
abbrev rdS (l : List ByteArray) (i : Int) : ByteArray := rdOf ByteArray.empty l i
theorem rdS_get (l : List ByteArray) (i : Nat) (h : i < l.length) : rdOf ByteArray.empty l (i : Int) = l[i] := by simp [rdOf, List.getD_eq_getElem?_getD, h]
theorem get_rdS (l : List ByteArray) (i : Nat) (h : i < l.length) : l[i]? = some (rdOf ByteArray.empty l (i : Int)) := by rw [rdS_get l i h]; simp [h]
theorem drop_rdS (l : List ByteArray) (i : Nat) (h : i < l.length) : l.drop i = rdOf ByteArray.empty l (i : Int) :: l.drop (i + 1) := by
  rw [List.drop_eq_getElem_cons h, rdS_get l i h]
theorem set_getS (l : List ByteArray) (i j : Nat) (v : ByteArray) (hi : i < l.length) : (l.set i v)[j]? = if j = i then some v else l[j]? := by
  by_cases h : j = i
  · subst h; simp [hi]
  · rw [if_neg h, List.getElem?_set_ne (Ne.symm h)]
theorem eq_of_getS {l m : List ByteArray} (hl : l.length = m.length) (h : ∀ j, j < l.length → l[j]? = m[j]?) : l = m := by
  apply List.ext_getElem?
  intro j
  by_cases hj : j < l.length
  · exact h j hj
  · rw [List.getElem?_eq_none (by omega), List.getElem?_eq_none (by omega)]
/-- The bytes of some strings, counted. -/
def szs : List ByteArray → Nat
  | [] => 0
  | x :: r => x.size + szs r

/-! drawJoin -/
theorem szs_snoc (l : List ByteArray) (x : ByteArray) : szs (l ++ [x]) = szs l + x.size := by
  induction l with
  | nil => simp [szs]
  | cons y r ih => rw [List.cons_append, szs, szs, ih]; omega
theorem drawJoin_l (l : List Int) (hl : IsBytes l) (n : Int) (hn : n ≤ 100) (d : Nat) : ∀ (i a s : Int) (out : List ByteArray), 0 ≤ i → i + d = n → 0 ≤ a → a + 2 * d ≤ 100000 → out.length + d ≤ 1000 →
    ∃ o a' s', Ev (fun k => spec_DrawJoinStrings.l k l a s out n i) (o, a', s') ∧ (o.length ≤ out.length + d ∧ szs o ≤ szs out + 10 * d) ∧ a ≤ a' ∧ a' ≤ a + 2 * d := by
  induction d with
  | zero =>
    intro i a s out h0 hi ha hb ho
    refine ⟨out, a, s, ev_succ ?_, ⟨by omega, by omega⟩, by omega, by omega⟩
    simp only [spec_DrawJoinStrings.l]
    exact ev_ifn (by omega) (ev_now rfl)
  | succ d ih =>
    intro i a s out h0 hi ha hb ho
    obtain ⟨t, a1, s1, e1, ht, h1⟩ := any1_ok l hl a s (by omega) (by omega)
    obtain ⟨o, a', s', h, ⟨q1, q2⟩, q3, q4⟩ := ih (i + 1) a1 s1 (out ++ [t]) (by omega) (by omega) (by omega) (by omega) (by simp only [List.length_append, List.length_singleton]; omega)
    rw [szs_snoc] at q2
    simp only [List.length_append, List.length_singleton] at q1
    refine ⟨o, a', s', ev_succ ?_, ⟨by omega, by omega⟩, by omega, by omega⟩
    simp only [spec_DrawJoinStrings.l, e1, Option.bind_some]
    rw [w64 (x := i + 1) (by omega) (by omega)]
    exact ev_ifp (by omega) (ev_ifp (by omega) h)
theorem drawJoin_ok (l : List Int) (hl : IsBytes l) : ∃ o m, Ev (fun k => spec_DrawJoinStrings.f k l) (o, m) ∧ o.length ≤ 4 ∧ szs o ≤ 5000 := by
  unfold spec_DrawJoinStrings.f
  obtain ⟨n, a1, s1, e1, hn, h1⟩ := pick_ok l hl 0 0 4 (by omega) (by omega) (by omega) (by omega)
  rw [e1]
  simp only [Option.bind_some]
  obtain ⟨d, hd⟩ : ∃ d : Nat, (0 : Int) + d = n := ⟨n.toNat, by omega⟩
  obtain ⟨o, a2, s2, h2, ⟨q1, q2⟩, q3, q4⟩ := drawJoin_l l hl n (by omega) d 0 a1 s1 [] (by omega) hd (by omega) (by omega) (by simp; omega)
  have hz : szs ([] : List ByteArray) = 0 := rfl
  simp only [List.length_nil] at q1
  obtain ⟨b, a3, s3, e3, h3⟩ := one_ok l hl a2 s2 20 (by omega) (by omega) (by omega) (by omega)
  have tail : ∀ (a s : Int) (o2 : List ByteArray), 0 ≤ a → a ≤ 1000 → ∃ m, (spec_l1Cur_of.f l a s ([(⟨#[44]⟩ : ByteArray), (⟨#[59]⟩ : ByteArray), (⟨#[59]⟩ : ByteArray), (⟨#[]⟩ : ByteArray), (⟨#[97, 98]⟩ : ByteArray)] : List ByteArray)).bind (fun m => some (o2, m.1)) = some (o2, m) := by
    intro a s o2 ha hb
    obtain ⟨m, a4, s4, e4, _⟩ := of_ok l hl a s ([(⟨#[44]⟩ : ByteArray), (⟨#[59]⟩ : ByteArray), (⟨#[59]⟩ : ByteArray), (⟨#[]⟩ : ByteArray), (⟨#[97, 98]⟩ : ByteArray)] : List ByteArray) (by omega) (by omega) (by decide) (by decide)
    rw [e4]
    exact ⟨m, rfl⟩
  cases b with
  | false =>
    obtain ⟨m, em⟩ := tail a3 s3 o (by omega) (by omega)
    refine ⟨o, m, ev_bind h2 ?_, by omega, by omega⟩
    simp only [e3, Option.bind_some]
    exact ev_ifn (by simp) (ev_plain em)
  | true =>
    obtain ⟨q, a4, s4, e4, hq, h4⟩ := pick_ok l hl a3 s3 20 (by omega) (by omega) (by omega) (by omega)
    have ew : wrap64 (3990 + q) = 3990 + q := w64 (by omega) (by omega)
    obtain ⟨m, em⟩ := tail a4 s4 (o ++ [strOfNums (List.replicate (wrap64 (3990 + q)).toNat (0 : Int))]) (by omega) (by omega)
    refine ⟨o ++ [strOfNums (List.replicate (wrap64 (3990 + q)).toNat (0 : Int))], m, ev_bind h2 ?_, by simp only [List.length_append, List.length_singleton]; omega, by rw [szs_snoc, strOf_size, List.length_replicate, ew]; omega⟩
    simp only [e3, Option.bind_some]
    refine ev_ifp (by simp) ?_
    simp only [e4, Option.bind_some]
    exact ev_ifp ⟨by rw [ew]; omega, by omega⟩ (ev_plain em)
/-! drawLess -/
theorem drawLess_ok (l : List Int) (hl : IsBytes l) : ∃ s m, spec_DrawLessString.f l = some (s, m) := by
  unfold spec_DrawLessString.f
  obtain ⟨t, a1, s1, e1, ht, h1⟩ := any1_ok l hl 0 0 (by omega) (by omega)
  rw [e1]
  simp only [Option.bind_some]
  obtain ⟨m, a2, s2, e2, hm, _⟩ := any1_ok l hl a1 s1 (by omega) (by omega)
  rw [e2]
  exact ⟨t, m, rfl⟩

/-! parts -/
/-- The parts of a list between a byte. -/
def parts (c : UInt8) : List UInt8 → List (List UInt8)
  | [] => [[]]
  | b :: l => if b = c then [] :: parts c l else (match parts c l with
    | [] => [[b]]
    | p :: r => (b :: p) :: r)
theorem parts_ne (c : UInt8) (l : List UInt8) : ∃ p r, parts c l = p :: r := by
  cases l with
  | nil => exact ⟨_, _, rfl⟩
  | cons b l =>
    rw [parts]
    by_cases h : b = c
    · rw [if_pos h]; exact ⟨_, _, rfl⟩
    · rw [if_neg h]
      cases parts c l with
      | nil => exact ⟨_, _, rfl⟩
      | cons p r => exact ⟨_, _, rfl⟩
theorem parts_cons_ne (c b : UInt8) (l p : List UInt8) (r : List (List UInt8)) (h : b ≠ c) (e : parts c l = p :: r) : parts c (b :: l) = (b :: p) :: r := by
  rw [parts, if_neg h, e]
theorem parts_len (c : UInt8) (l : List UInt8) : (parts c l).length ≤ l.length + 1 := by
  induction l with
  | nil => simp [parts]
  | cons b l ih =>
    obtain ⟨p, r, e⟩ := parts_ne c l
    by_cases h : b = c
    · rw [parts, if_pos h]; simp only [List.length_cons]; omega
    · rw [parts_cons_ne c b l p r h e]; rw [e] at ih; simp only [List.length_cons] at ih ⊢; omega
theorem idx_ge (c : UInt8) (l : List UInt8) : -1 ≤ Lib.indexByte l c := Lib.indexByte_ge l c
theorem parts_miss (c : UInt8) (l : List UInt8) (h : Lib.indexByte l c = -1) : parts c l = [l] := by
  induction l with
  | nil => rfl
  | cons b l ih =>
    rw [Lib.indexByte] at h
    by_cases e : b = c
    · subst e; simp at h
    · have e1 : (b == c) = false := beq_eq_false_iff_ne.2 e
      rw [e1, if_neg (by decide)] at h
      have g := idx_ge c l
      by_cases f : Lib.indexByte l c = -1
      · exact parts_cons_ne c b l l [] e (ih f)
      · rw [if_neg (by simpa using f)] at h; omega
theorem parts_hit (c : UInt8) (l : List UInt8) : ∀ j : Nat, Lib.indexByte l c = j → j < l.length ∧ parts c l = l.take j :: parts c (l.drop (j + 1)) := by
  induction l with
  | nil => intro j h; rw [Lib.indexByte] at h; omega
  | cons b l ih =>
    intro j h
    rw [Lib.indexByte] at h
    by_cases e : b = c
    · have e1 : (b == c) = true := beq_iff_eq.2 e
      rw [e1, if_pos rfl] at h
      obtain rfl : j = 0 := by omega
      rw [parts, if_pos e]
      exact ⟨by simp, rfl⟩
    · have e1 : (b == c) = false := beq_eq_false_iff_ne.2 e
      rw [e1, if_neg (by decide)] at h
      have g := idx_ge c l
      by_cases f : Lib.indexByte l c = -1
      · rw [if_pos (by simpa using f)] at h; omega
      · rw [if_neg (by simpa using f)] at h
        obtain ⟨i, rfl⟩ : ∃ i, j = i + 1 := ⟨j - 1, by omega⟩
        obtain ⟨h1, h2⟩ := ih i (by omega)
        refine ⟨by rw [List.length_cons]; omega, ?_⟩
        rw [parts_cons_ne c b l _ _ e h2]
        rfl
/-- Some bytes ahead of the first part. -/
def glue (a : List UInt8) : List (List UInt8) → List (List UInt8)
  | [] => [a]
  | p :: r => (a ++ p) :: r
def mk8 (l : List UInt8) : ByteArray := ⟨l.toArray⟩
theorem glue_nil (c : UInt8) (l : List UInt8) : glue [] (parts c l) = parts c l := by
  obtain ⟨p, r, e⟩ := parts_ne c l
  rw [e]; rfl
theorem extract_mk (s : ByteArray) (a b : Nat) (_ : a ≤ b) : s.extract a b = mk8 ((s.data.toList.drop a).take (b - a)) := by
  apply ByteArray.ext
  apply Array.toList_inj.1
  rw [ByteArray.data_extract, Array.toList_extract]
  simp [mk8, List.extract_eq_take_drop]

/-! splitB -/
theorem mk8_data (s : ByteArray) : mk8 s.data.toList = s := by
  apply ByteArray.ext
  simp [mk8]
theorem splitK_parts (c : UInt8) : ∀ (n : Nat) (l : List UInt8), l.length ≤ n → Lib.splitK [c] 0 (Lib.count l [c]) l = parts c l := by
  intro n
  induction n with
  | zero =>
    intro l h
    obtain rfl : l = [] := List.length_eq_zero_iff.1 (by omega)
    rw [Lib.count_miss (by rw [Lib.index_one]; rfl)]
    rfl
  | succ n ih =>
    intro l h
    have g := idx_ge c l
    by_cases m : Lib.indexByte l c = -1
    · rw [Lib.count_miss (by rw [Lib.index_one]; exact m), parts_miss c l m]
      rfl
    · obtain ⟨hj, e⟩ := parts_hit c l (Lib.indexByte l c).toNat (by omega)
      have hi : Lib.index l [c] = ((Lib.indexByte l c).toNat : Nat) := by rw [Lib.index_one]; omega
      rw [Lib.count_hit (by simp) hi, Nat.add_comm, Lib.splitK, if_neg (by rw [hi, beq_iff_eq]; omega), hi, e]
      simp only [Int.toNat_natCast, List.length_singleton, Nat.add_zero]
      rw [ih _ (by rw [List.length_drop]; omega)]
theorem splitB_parts (s : ByteArray) (c : UInt8) : Lib.splitB (⟨#[c]⟩ : ByteArray) 0 (Lib.countB s (⟨#[c]⟩ : ByteArray)) s = (parts c s.data.toList).map mk8 := by
  have h := Lib.splitB_data (⟨#[c]⟩ : ByteArray) 0 (Lib.countB s (⟨#[c]⟩ : ByteArray)) s
  have h2 : Lib.splitK [c] 0 (Lib.countB s (⟨#[c]⟩ : ByteArray)) s.data.toList = parts c s.data.toList := splitK_parts c _ _ (Nat.le_refl _)
  rw [h2] at h
  rw [← h, List.map_map]
  symm
  exact (List.map_congr_left (fun x _ => mk8_data x)).trans (List.map_id _)
theorem count_le (l : List UInt8) (c : UInt8) : Lib.count l [c] ≤ l.length := by
  have e := congrArg List.length (splitK_parts c l.length l (Nat.le_refl _))
  have h := Lib.countB_le (⟨#[c]⟩ : ByteArray) (Nat.le_refl 1) (mk8 l).size (mk8 l) (Nat.le_refl _)
  have hz : (mk8 l).size = l.length := List.size_toArray
  rw [hz] at h
  exact h

/-! oneByte -/
theorem one_byte (a : ByteArray) (h : a.size = 1) : ∃ c : UInt8, a = ⟨#[c]⟩ := by
  obtain ⟨⟨l⟩⟩ := a
  match l, h with
  | [b], _ => exact ⟨b, rfl⟩

/-! splitImpl -/
theorem split_impl (s : ByteArray) (c : UInt8) (h : s.size ≤ 4000) : impl_SplitString.f s (⟨#[c]⟩ : ByteArray) = some ((parts c s.data.toList).map mk8, true) := by
  have hz : s.data.toList.length = s.size := Array.length_toList
  have hcb : Lib.countB s (⟨#[c]⟩ : ByteArray) ≤ 4294967281 := by
    have h3 : Lib.countB s (⟨#[c]⟩ : ByteArray) ≤ s.data.toList.length := count_le _ _
    omega
  have h1c : 1 ≤ (⟨#[c]⟩ : ByteArray).size := Nat.le_refl 1
  have e : strings_Split.f s (⟨#[c]⟩ : ByteArray) = some ((parts c s.data.toList).map mk8) := by
    unfold strings_Split.f
    rw [if_pos ⟨by omega, h1c, hcb⟩, splitB_parts]
  unfold impl_SplitString.f
  rw [if_neg (by omega), if_pos (show ((⟨#[c]⟩ : ByteArray).size : Int) = 1 from rfl), e]
  rfl
theorem split_none (s a : ByteArray) (h : s.size ≤ 4000) (h1 : (a.size : Int) ≠ 1) : impl_SplitString.f s a = some ([], false) := by
  unfold impl_SplitString.f
  rw [if_neg (by omega), if_neg h1]

/-! partsJoin -/
theorem parts_free (c : UInt8) (l : List UInt8) : ∀ p ∈ parts c l, p.any (fun b => decide ((b.toNat : Int) = (c.toNat : Int))) = false := by
  induction l with
  | nil => intro p h; rw [parts] at h; simp only [List.mem_cons, List.not_mem_nil, or_false] at h; subst h; rfl
  | cons b l ih =>
    intro p h
    by_cases e : b = c
    · rw [parts, if_pos e] at h
      rcases List.mem_cons.1 h with h | h
      · subst h; rfl
      · exact ih p h
    · obtain ⟨p1, r1, e1⟩ := parts_ne c l
      rw [parts_cons_ne c b l p1 r1 e e1] at h
      rcases List.mem_cons.1 h with h | h
      · subst h
        rw [List.any_cons, ih p1 (by rw [e1]; exact List.mem_cons_self), Bool.or_false]
        exact decide_eq_false (fun z => e (UInt8.toNat_inj.1 (by omega)))
      · exact ih p (by rw [e1]; exact List.mem_cons_of_mem _ h)
theorem parts_join (c : UInt8) (l : List UInt8) : ∀ p r, parts c l = p :: r → p ++ Lib.joinTail [c] r = l := by
  induction l with
  | nil => intro p r h; rw [parts] at h; injection h with h1 h2; subst h1 h2; simp [Lib.joinTail]
  | cons b l ih =>
    intro p r h
    obtain ⟨p1, r1, e1⟩ := parts_ne c l
    have i := ih p1 r1 e1
    by_cases e : b = c
    · rw [parts, if_pos e, e1] at h
      injection h with h1 h2
      subst h1 h2
      rw [e, ← i]
      simp [Lib.joinTail]
    · rw [parts_cons_ne c b l p1 r1 e e1] at h
      injection h with h1 h2
      subst h1 h2
      rw [List.cons_append, i]
def sums : List (List UInt8) → Nat
  | [] => 0
  | p :: r => p.length + sums r
theorem parts_sum (c : UInt8) (l : List UInt8) : ∀ p r, parts c l = p :: r → p.length + r.length + sums r = l.length := by
  induction l with
  | nil => intro p r h; rw [parts] at h; injection h with h1 h2; subst h1 h2; rfl
  | cons b l ih =>
    intro p r h
    obtain ⟨p1, r1, e1⟩ := parts_ne c l
    have i := ih p1 r1 e1
    by_cases e : b = c
    · rw [parts, if_pos e, e1] at h
      injection h with h1 h2
      subst h1 h2
      simp only [List.length_nil, List.length_cons, sums]
      omega
    · rw [parts_cons_ne c b l p1 r1 e e1] at h
      injection h with h1 h2
      subst h1 h2
      simp only [List.length_cons]
      omega

/-! hasB -/
/-- Whether a byte stands in a string. -/
def hasB (s : ByteArray) (c : Int) : Bool := s.data.toList.any (fun b => decide ((b.toNat : Int) = c))
theorem bt_get (s : ByteArray) (i : Nat) (h : i < s.data.toList.length) : bt s (i : Int) = ((s.data.toList[i]).toNat : Int) := by
  have h1 : i < s.size := by rw [Array.length_toList] at h; exact h
  unfold bt
  rw [dif_pos (by simpa using h1)]
  simp [ByteArray.getElem_eq_getElem_data]

/-! stands -/
theorem stands_l0 (s : ByteArray) (c : Int) (hs : s.size ≤ 2000000) (i : Nat) : i ≤ s.size → Ev (fun k => spec_l1Stands.l0 k s c (i : Int)) ((s.data.toList.drop i).any (fun b => decide ((b.toNat : Int) = c))) := by
  intro hi
  have hz : s.data.toList.length = s.size := Array.length_toList
  refine ev_succ ?_
  simp only [spec_l1Stands.l0]
  by_cases h : i < s.size
  · have hl : i < s.data.toList.length := by omega
    refine ev_ifp (by omega) (ev_ifp (by omega) ?_)
    rw [List.drop_eq_getElem_cons hl, List.any_cons, bt_get s i hl]
    by_cases e : ((s.data.toList[i]).toNat : Int) = c
    · exact ev_ifp e (ev_now (by rw [decide_eq_true e]; rfl))
    · refine ev_ifn e ?_
      rw [w64 (x := (i : Int) + 1) (by omega) (by omega), decide_eq_false e, Bool.false_or]
      exact stands_l0 s c hs (i + 1) (by omega)
  · rw [List.drop_eq_nil_of_le (by omega)]
    exact ev_ifn (by omega) (ev_now rfl)
 termination_by s.size - i
theorem stands_ev (s : ByteArray) (c : Int) (hs : s.size ≤ 2000000) : Ev (fun k => spec_l1Stands.f k s c) (hasB s c) := stands_l0 s c hs 0 (by omega)

/-! has -/
theorem one_bt (a : ByteArray) (h : a.size = 1) : bt a 0 = ((a.data.getD 0 0).toNat : Int) := by
  obtain ⟨⟨l⟩⟩ := a
  match l, h with
  | [b], _ => rfl
theorem contains_has (s a : ByteArray) (h : a.size = 1) : s.data.toList.contains (a.data.getD 0 0) = hasB s (bt a 0) := by
  rw [one_bt a h]
  unfold hasB
  rw [Bool.eq_iff_iff, List.contains_iff_mem, List.any_eq_true]
  constructor
  · intro m; exact ⟨_, m, decide_eq_true rfl⟩
  · rintro ⟨b, m, e⟩
    have e1 := of_decide_eq_true e
    have e2 : b = a.data.getD 0 0 := UInt8.toNat_inj.1 (by omega)
    exact e2 ▸ m

/-! joinBoth -/
/-- What the reference adds at place i. -/
def add1 (a : ByteArray) (i : Nat) (out x : ByteArray) : ByteArray := if 0 < i then (out ++ a) ++ x else out ++ x
def jg (a : ByteArray) : Nat → ByteArray → List ByteArray → ByteArray
  | _, out, [] => out
  | i, out, x :: r => jg a (i + 1) (add1 a i out x) r
def jb (a : ByteArray) : Nat → ByteArray → List ByteArray → Bool
  | _, _, [] => false
  | i, out, x :: r => hasB x (bt a 0) || decide (4000 < (add1 a i out x).size) || jb a (i + 1) (add1 a i out x) r
def ib (a : ByteArray) : Int → List ByteArray → Bool
  | _, [] => false
  | t, x :: r => decide (4000 < t + x.size) || hasB x (bt a 0) || ib a (t + x.size) r
theorem mem_szs (l : List ByteArray) (x : ByteArray) (h : x ∈ l) : x.size ≤ szs l := by
  induction l with
  | nil => cases h
  | cons y r ih =>
    rw [szs]
    rcases List.mem_cons.1 h with e | e
    · subst e; omega
    · have := ih e; omega
theorem spec_l0 (l : List ByteArray) (a : ByteArray) (ha : a.size = 1) (hl : l.length + szs l ≤ 1048576) (i : Nat) (out : ByteArray) (hi : i ≤ l.length) (ho : out.size ≤ 4000) :
    Ev (fun k => spec_JoinStrings.l0 k l a out (i : Int)) (if jb a i out (l.drop i) = true then ((⟨#[]⟩ : ByteArray), false) else (jg a i out (l.drop i), true)) := by
  refine ev_succ ?_
  simp only [spec_JoinStrings.l0]
  by_cases h : i < l.length
  · have hx : (rdOf ByteArray.empty l (i : Int)).size ≤ 1048576 := by
      have := mem_szs l _ (show rdOf ByteArray.empty l (i : Int) ∈ l by rw [rdS_get l i h]; exact List.getElem_mem h)
      omega
    refine ev_ifp (by omega) (ev_ifp (by omega) (ev_ifp (by omega) ?_))
    refine ev_bind (stands_ev _ _ (by omega)) ?_
    rw [drop_rdS l i h, jb, jg]
    generalize rdOf ByteArray.empty l (i : Int) = x at hx
    cases hb : hasB x (bt a 0) with
    | true => exact ev_ifp rfl (ev_now (by simp))
    | false =>
      refine ev_ifn (by simp) ?_
      rw [w64 (x := (i : Int) + 1) (by omega) (by omega)]
      unfold add1
      by_cases z : 0 < i
      · have s1 : (out ++ a).size = out.size + a.size := ByteArray.size_append
        have s2 : (out ++ a ++ x).size = out.size + a.size + x.size := by rw [ByteArray.size_append, s1]
        simp only [if_pos z]
        refine ev_ifp (by omega) (ev_ifp (by omega) (ev_ifp (by omega) ?_))
        by_cases c : 4000 < (out ++ a ++ x).size
        · exact ev_ifp (by omega) (ev_now (by rw [decide_eq_true c]; simp))
        · refine ev_ifn (by omega) ?_
          rw [decide_eq_false c, Bool.false_or, Bool.false_or]
          exact spec_l0 l a ha hl (i + 1) _ (by omega) (by omega)
      · have s1 : (out ++ x).size = out.size + x.size := ByteArray.size_append
        simp only [if_neg z]
        refine ev_ifn (by omega) (ev_ifp (by omega) ?_)
        by_cases c : 4000 < (out ++ x).size
        · exact ev_ifp (by omega) (ev_now (by rw [decide_eq_true c]; simp))
        · refine ev_ifn (by omega) ?_
          rw [decide_eq_false c, Bool.false_or, Bool.false_or]
          exact spec_l0 l a ha hl (i + 1) _ (by omega) (by omega)
  · rw [List.drop_eq_nil_of_le (by omega)]
    exact ev_ifn (by omega) (ev_now (by simp [jb, jg]))
 termination_by l.length - i
theorem impl_l0 (l : List ByteArray) (a : ByteArray) (ha : a.size = 1) (hl : l.length + szs l ≤ 1048576) (i : Nat) (t : Int) (hi : i ≤ l.length) (h0 : 0 ≤ t) (h1 : t ≤ 1048576 + l.length) (J : ByteArray) (hJ : ib a t (l.drop i) = false → strings_Join.f l a = some J) :
    Ev (fun k => impl_JoinStrings.l0 k l a t l (l.length : Int) (i : Int)) (if ib a t (l.drop i) = true then ((⟨#[]⟩ : ByteArray), false) else (J, true)) := by
  refine ev_succ ?_
  simp only [impl_JoinStrings.l0]
  by_cases h : i < l.length
  · have hx : (rdOf ByteArray.empty l (i : Int)).size ≤ 1048576 := by
      have := mem_szs l _ (show rdOf ByteArray.empty l (i : Int) ∈ l by rw [rdS_get l i h]; exact List.getElem_mem h)
      omega
    refine ev_ifp (by omega) (ev_ifp (by omega) (ev_ifp (by omega) ?_))
    rw [drop_rdS l i h, ib] at hJ ⊢
    generalize rdOf ByteArray.empty l (i : Int) = x at hx hJ
    rw [w64 (x := t + _) (by omega) (by omega), w64 (x := (i : Int) + 1) (by omega) (by omega)]
    by_cases c : 4000 < t + (x.size : Int)
    · exact ev_ifp c (ev_now (by rw [decide_eq_true c]; simp))
    · refine ev_ifn c ?_
      have e : strings_Contains.f x a = some (hasB x (bt a 0)) := by unfold strings_Contains.f; rw [if_pos ha, contains_has x a ha]
      rw [e]
      simp only [Option.bind_some]
      rw [decide_eq_false c, Bool.false_or] at hJ ⊢
      cases hb : hasB x (bt a 0) with
      | true => exact ev_ifp rfl (ev_now (by simp))
      | false =>
        rw [hb, Bool.false_or] at hJ
        rw [Bool.false_or]
        exact ev_ifn (by simp) (impl_l0 l a ha hl (i + 1) _ (by omega) (by omega) (by omega) J hJ)
  · rw [List.drop_eq_nil_of_le (by omega)] at hJ ⊢
    refine ev_ifn (by omega) ?_
    rw [hJ rfl]
    exact ev_now (by simp [ib])
 termination_by l.length - i
theorem jb_eq (a : ByteArray) (ha : a.size = 1) (l : List ByteArray) : ∀ (i : Nat) (out : ByteArray), 0 < i → out.size ≤ 4000 → jb a i out l = (l.any (fun x => hasB x (bt a 0)) || decide (4000 < out.size + l.length + szs l)) := by
  induction l with
  | nil => intro i out _ h; rw [jb, szs]; simp; omega
  | cons x r ih =>
    intro i out hi h
    rw [jb, szs, List.any_cons, List.length_cons]
    have s2 : (add1 a i out x).size = out.size + a.size + x.size := by unfold add1; rw [if_pos hi, ByteArray.size_append, ByteArray.size_append]
    cases hasB x (bt a 0) with
    | true => simp
    | false =>
      rw [Bool.false_or, Bool.false_or]
      by_cases c : 4000 < (add1 a i out x).size
      · rw [decide_eq_true c, decide_eq_true (show 4000 < out.size + (r.length + 1) + (x.size + szs r) by omega)]; simp
      · rw [decide_eq_false c, Bool.false_or, ih (i + 1) _ (by omega) (by omega)]
        congr 1
        rw [decide_eq_decide]; omega
theorem ib_eq (a : ByteArray) (l : List ByteArray) : ∀ (t : Int), 0 ≤ t → t ≤ 4000 → ib a t l = (l.any (fun x => hasB x (bt a 0)) || decide (4000 < t + szs l)) := by
  induction l with
  | nil => intro t _ h; rw [ib, szs]; simp; omega
  | cons x r ih =>
    intro t h0 h
    rw [ib, szs, List.any_cons]
    by_cases c : 4000 < t + (x.size : Int)
    · rw [decide_eq_true c, decide_eq_true (show 4000 < t + ((x.size + szs r : Nat) : Int) by omega)]; simp
    · rw [decide_eq_false c, Bool.false_or, ih _ (by omega) (by omega)]
      cases hasB x (bt a 0) with
      | true => simp
      | false =>
        rw [Bool.false_or, Bool.false_or]
        congr 1
        rw [decide_eq_decide]; omega
theorem bad_eq (a : ByteArray) (ha : a.size = 1) (x : ByteArray) (r : List ByteArray) : jb a 0 (⟨#[]⟩ : ByteArray) (x :: r) = ib a ((x :: r).length - 1 : Int) (x :: r) := by
  rw [jb, ib]
  have s2 : (add1 a 0 (⟨#[]⟩ : ByteArray) x).size = x.size := by unfold add1; rw [if_neg (by omega), ByteArray.size_append]; exact Nat.zero_add _
  have el : (((x :: r).length : Int) - 1) = (r.length : Int) := by rw [List.length_cons]; omega
  rw [el, s2]
  cases hasB x (bt a 0) with
  | true => simp
  | false =>
    rw [Bool.false_or, Bool.or_false]
    by_cases c : 4000 < x.size
    · rw [decide_eq_true c, decide_eq_true (show 4000 < (r.length : Int) + (x.size : Int) by omega)]; simp
    · rw [decide_eq_false c, Bool.false_or, jb_eq a ha r 1 _ (by omega) (by omega), s2]
      by_cases d : 4000 < (r.length : Int) + (x.size : Int)
      · rw [decide_eq_true d, decide_eq_true (show 4000 < x.size + r.length + szs r by omega)]; simp
      · rw [decide_eq_false d, Bool.false_or, ib_eq a r _ (by omega) (by omega)]
        congr 1
        rw [decide_eq_decide]; omega
theorem jg_data (a : ByteArray) (l : List ByteArray) : ∀ (i : Nat) (out : ByteArray), 0 < i → (jg a i out l).data.toList = out.data.toList ++ Lib.joinTail a.data.toList (l.map (·.data.toList)) := by
  induction l with
  | nil => intro i out _; rw [jg]; simp [Lib.joinTail]
  | cons x r ih =>
    intro i out hi
    rw [jg, ih (i + 1) _ (by omega)]
    unfold add1
    rw [if_pos hi]
    simp [Lib.joinTail, ByteArray.data_append, List.append_assoc]
theorem jg_join (a : ByteArray) (x : ByteArray) (r : List ByteArray) : jg a 0 (⟨#[]⟩ : ByteArray) (x :: r) = ⟨(Lib.join ((x :: r).map (·.data.toList)) a.data.toList).toArray⟩ := by
  apply ByteArray.ext
  apply Array.toList_inj.1
  rw [jg, jg_data a r 1 _ (by omega), List.map_cons, Lib.join_cons]
  unfold add1
  rw [if_neg (by omega)]
  simp [ByteArray.data_append]
theorem lens_szs (l : List ByteArray) : Lib.lens (l.map (·.data.toList)) = szs l := by
  induction l with
  | nil => rfl
  | cons x r ih =>
    have e : x.data.toList.length = x.size := Array.length_toList
    rw [szs, ← ih, ← e]
    simp [Lib.lens]
/-- What JoinStrings answers. -/
def joinR (l : List ByteArray) (a : ByteArray) : ByteArray × Bool := if a.size = 1 then (match l with
  | [] => ((⟨#[]⟩ : ByteArray), false)
  | x :: r => if jb a 0 (⟨#[]⟩ : ByteArray) (x :: r) = true then ((⟨#[]⟩ : ByteArray), false) else (jg a 0 (⟨#[]⟩ : ByteArray) (x :: r), true)) else ((⟨#[]⟩ : ByteArray), false)
theorem join_both (l : List ByteArray) (a : ByteArray) (hz : l.length + szs l ≤ 1048576) : Ev (fun k => spec_JoinStrings.f k l a) (joinR l a) ∧ Ev (fun k => impl_JoinStrings.f k l a) (joinR l a) := by
  obtain ⟨R, hR, h1, h2⟩ : ∃ R : ByteArray × Bool, R = joinR l a ∧ Ev (fun k => spec_JoinStrings.f k l a) R ∧ Ev (fun k => impl_JoinStrings.f k l a) R := by
    unfold joinR
    unfold spec_JoinStrings.f impl_JoinStrings.f
    by_cases c1 : (a.size : Int) = 1
    · have ha : a.size = 1 := by omega
      rcases l with _ | ⟨x, r⟩
      · exact ⟨((⟨#[]⟩ : ByteArray), false), by rw [if_pos ha], ev_ifp c1 (ev_succ (by simp only [spec_JoinStrings.j0]; exact ev_ifp (by simp) (ev_now rfl))), ev_ifp (by simp) (ev_succ (by simp only [impl_JoinStrings.j0]; exact ev_ifp (by simp) (ev_now rfl)))⟩
      · refine ⟨if jb a 0 (⟨#[]⟩ : ByteArray) (x :: r) = true then ((⟨#[]⟩ : ByteArray), false) else (jg a 0 (⟨#[]⟩ : ByteArray) (x :: r), true), by rw [if_pos ha], ev_ifp c1 (ev_succ ?_), ev_ifn (by rw [List.length_cons]; omega) (ev_succ ?_)⟩
        · simp only [spec_JoinStrings.j0]
          refine ev_ifn (by rw [List.length_cons, beq_iff_eq]; omega) ?_
          exact spec_l0 (x :: r) a ha hz 0 _ (by omega) (Nat.zero_le _)
        · simp only [impl_JoinStrings.j0]
          refine ev_ifn (by rw [c1]; decide) ?_
          have hlen : ((x :: r).length : Int) ≤ 1048576 := by omega
          have hpos : 1 ≤ ((x :: r).length : Int) := by rw [List.length_cons]; omega
          rw [w64 (by omega) (by omega), bad_eq a ha x r, jg_join a x r]
          refine impl_l0 (x :: r) a ha hz 0 _ (by omega) (by omega) (by omega) _ (fun _ => ?_)
          unfold strings_Join.f
          refine if_pos ⟨by rw [List.length_cons]; omega, by omega, ?_⟩
          have el := lens_szs (x :: r)
          rw [List.map_cons] at el ⊢
          rw [Lib.join_length, el, List.length_map]
          have : a.data.toList.length = 1 := Array.length_toList.trans ha
          rw [this]
          rw [List.length_cons] at hz
          omega
    · refine ⟨((⟨#[]⟩ : ByteArray), false), by rw [if_neg (by omega)], ev_ifn c1 (ev_succ (by simp only [spec_JoinStrings.j0]; exact ev_ifp (by simp) (ev_now rfl))), ?_⟩
      by_cases c2 : (l.length : Int) = 0
      · exact ev_ifp c2 (ev_succ (by simp only [impl_JoinStrings.j0]; exact ev_ifp (by simp) (ev_now rfl)))
      · exact ev_ifn c2 (ev_succ (by simp only [impl_JoinStrings.j0]; exact ev_ifp (by simpa using c1) (ev_now rfl)))
  subst hR
  exact ⟨h1, h2⟩

/-! joinParts -/
theorem szs_map (r : List (List UInt8)) : szs (r.map mk8) = sums r := by
  induction r with
  | nil => rfl
  | cons p r ih =>
    have e : (mk8 p).size = p.length := List.size_toArray
    rw [List.map_cons, szs, sums, ih, e]
theorem has_mk (p : List UInt8) (c : UInt8) : hasB (mk8 p) (bt (⟨#[c]⟩ : ByteArray) 0) = p.any (fun b => decide ((b.toNat : Int) = (c.toNat : Int))) := by
  have hc : bt (⟨#[c]⟩ : ByteArray) 0 = (c.toNat : Int) := rfl
  rw [hc]
  rfl
/-- The parts of a text, joined again. -/
theorem join_parts (s : ByteArray) (c : UInt8) (h : s.size ≤ 4000) : joinR ((parts c s.data.toList).map mk8) (⟨#[c]⟩ : ByteArray) = (s, true) := by
  have hz : s.data.toList.length = s.size := Array.length_toList
  obtain ⟨p, r, e⟩ := parts_ne c s.data.toList
  have hs := parts_sum c _ p r e
  have hf := parts_free c s.data.toList
  have hj := parts_join c _ p r e
  rw [e] at hf ⊢
  have ha : (⟨#[c]⟩ : ByteArray).size = 1 := rfl
  have hps : (mk8 p).size = p.length := List.size_toArray
  have hb : jb (⟨#[c]⟩ : ByteArray) 0 (⟨#[]⟩ : ByteArray) (mk8 p :: r.map mk8) = false := by
    rw [jb, has_mk, hf p List.mem_cons_self, Bool.false_or]
    have s2 : (add1 (⟨#[c]⟩ : ByteArray) 0 (⟨#[]⟩ : ByteArray) (mk8 p)).size = (mk8 p).size := by unfold add1; rw [if_neg (by omega), ByteArray.size_append]; exact Nat.zero_add _
    rw [s2, decide_eq_false (by omega), Bool.false_or, jb_eq _ ha _ 1 _ (by omega) (by omega), s2, szs_map, List.length_map, decide_eq_false (by omega), Bool.or_false]
    rw [List.any_eq_false]
    intro x hx
    obtain ⟨q, hq, rfl⟩ := List.mem_map.1 hx
    rw [has_mk, hf q (List.mem_cons_of_mem _ hq)]
    simp
  unfold joinR
  rw [if_pos ha]
  show (if jb _ 0 _ (mk8 p :: r.map mk8) = true then _ else (jg _ 0 _ (mk8 p :: r.map mk8), true)) = _
  rw [hb, if_neg (by simp), jg_join]
  congr 1
  apply ByteArray.ext
  apply Array.toList_inj.1
  have em : ∀ q : List (List UInt8), (q.map mk8).map (fun x : ByteArray => x.data.toList) = q := fun q => by
    rw [List.map_map]
    exact (List.map_congr_left (fun x _ => rfl)).trans (List.map_id _)
  rw [List.map_cons, Lib.join_cons, em]
  show p ++ Lib.joinTail [c] r = _
  exact hj

/-! less -/
theorem ltB_asymm : ∀ a b : List UInt8, Op.bytesLess a b = true → Op.bytesLess b a = true → False := by
  intro a
  induction a with
  | nil => intro b h1 h2; cases b <;> simp [Op.bytesLess] at h1 h2
  | cons x a ih =>
    intro b h1 h2
    cases b with
    | nil => simp [Op.bytesLess] at h1
    | cons y b =>
      simp only [Op.bytesLess, Bool.or_eq_true, Bool.and_eq_true, decide_eq_true_eq, beq_iff_eq] at h1 h2
      rcases h1 with h1 | ⟨e1, h1⟩ <;> rcases h2 with h2 | ⟨e2, h2⟩
      · rw [UInt8.lt_iff_toNat_lt] at h1 h2; omega
      · subst e2; rw [UInt8.lt_iff_toNat_lt] at h1; omega
      · subst e1; rw [UInt8.lt_iff_toNat_lt] at h2; omega
      · exact ih b h1 h2

/-! LAW FnSplitJoin -/
theorem FnSplitJoin (l : List Int) (_ : l.length ≤ maxLen) (hw : ∀ x ∈ l, (Lit.int .u8 x).wf = true) : ∃ k, laws_FnSplitJoin.f k l = some true := by
  have hl := bytes_wf l hw
  suffices h : Ev (fun k => laws_FnSplitJoin.f k l) true from by
    obtain ⟨m, hm⟩ := h
    exact ⟨m, hm m (Nat.le_refl _)⟩
  unfold laws_FnSplitJoin.f laws_vBig.f
  simp only [Option.bind_some]
  by_cases c0 : (l.length : Int) > 65536
  · exact ev_ifp (by simpa using c0) (ev_now rfl)
  refine ev_ifn (by simpa using c0) ?_
  obtain ⟨s, m, e1, hs, hm⟩ := drawSplit_ok l hl
  rw [e1]
  simp only [Option.bind_some]
  obtain ⟨o, m2, h2, ho, hz⟩ := drawJoin_ok l hl
  obtain ⟨a, b, e3⟩ := drawLess_ok l hl
  have j := join_both o m2 (by omega)
  obtain ⟨R, hR, hEnd⟩ : ∃ R : List ByteArray × Bool, impl_SplitString.f s m = some R ∧ ∀ t : Bool, t = false → Ev (fun k => laws_FnSplitJoin.j0 k s m R.1 R.2 t) true := by
    by_cases c : (m.size : Int) = 1
    · obtain ⟨x, rfl⟩ := one_byte m (by omega)
      refine ⟨_, split_impl s x (by omega), fun t ht => ev_succ ?_⟩
      subst ht
      simp only [laws_FnSplitJoin.j0]
      have hsz : ((parts x s.data.toList).map mk8).length + szs ((parts x s.data.toList).map mk8) ≤ 1048576 := by
        have hzz : s.data.toList.length = s.size := Array.length_toList
        obtain ⟨p, r, e⟩ := parts_ne x s.data.toList
        have := parts_sum x _ p r e
        rw [szs_map, List.length_map, e, sums, List.length_cons]
        omega
      refine ev_ifn (by simp) (ev_ifp c (ev_bind (join_both _ _ hsz).2 ?_))
      rw [join_parts s x (by omega)]
      exact ev_ifp (by simp) (ev_ifp (by simp) (ev_now (by simp)))
    · refine ⟨_, split_none s m (by omega) c, fun t ht => ev_succ ?_⟩
      subst ht
      simp only [laws_FnSplitJoin.j0]
      exact ev_ifn (by simp) (ev_ifn c (ev_ifn (by simp) (ev_now rfl)))
  rw [hR]
  simp only [Option.bind_some]
  refine ev_bind h2 (ev_bind j.2 (ev_bind j.1 ?_))
  rw [e3]
  simp only [Option.bind_some]
  refine ev_ifp (by simp) (ev_ifn (by simp) ?_)
  unfold impl_LessString.f spec_LessString.f
  simp only [Option.bind_some]
  refine ev_ifn (by simp) ?_
  by_cases c : Op.bytesLess a.toList b.toList = true
  · refine ev_ifp c (hEnd _ ?_)
    cases h : Op.bytesLess b.toList a.toList with
    | false => rfl
    | true => exact (ltB_asymm _ _ c h).elim
  · exact ev_ifn c (hEnd _ rfl)

end Go.Proofs.YtbdbogpmnmcaeaaDoor.Pure
